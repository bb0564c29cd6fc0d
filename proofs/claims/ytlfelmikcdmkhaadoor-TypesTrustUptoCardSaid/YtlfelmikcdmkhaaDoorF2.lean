/- What each function asks: printed by hoas.py off the loaded program; each is held against the program by the kernel. -/
import Derived.Test.YtlfelmikcdmkhaaDoorN
set_option linter.unusedVariables false
set_option linter.unusedSimpArgs false
set_option linter.unusedSectionVars false
namespace Go.Proofs.YtlfelmikcdmkhaaDoor
open Go Go.Isk
set_option maxRecDepth 100000
-- isthmus/types.getCommit
-- (*isthmus/pack.Writer).Uint
def F.pack_Writer_Uint (k : Value → World → Prop) (a0 a1 : Value) (w : World) : Prop :=
  mv (.pointer none) fun t4 =>
  mv a0 fun t5 =>
  o1 Tryd.prog (bin .eql 95 (.tmp 5) (.const (.pointer none)) t5 (.pointer none)) w fun t6 w =>
  br t6 (fun _ =>
  mv (.pointer none) fun t4_1 =>
  k t4_1 w) (fun _ =>
  lp [a1] w fun I1 μ1 => ∀ (x1 : Env) (w1 : World), I1 [x1 1] w1 →
  mv (x1 1) fun t7 =>
  o1 Tryd.prog (bin .geq 107 (.tmp 7) (.const (.int .u64 128)) t7 (.int .u64 128)) w1 fun t8 w =>
  br t8 (fun _ =>
  mv a0 fun t11 =>
  mv a0 fun t12 =>
  nilOk t12 = true ∧ mv t12 fun t13 =>
  o1 Tryd.prog (Instr.fieldAt 140 t13 0) w fun t14 w =>
  o1 Tryd.prog (Instr.loadAt 33 t14) w fun t15 w =>
  mv (x1 1) fun t16 =>
  o1 Tryd.prog (convert 107 5 t16) w fun t17 w =>
  o1 Tryd.prog (bin .or 5 (.tmp 17) (.const (.int .u8 128)) t17 (.int .u8 128)) w fun t18 w =>
  o1 Tryd.prog (Instr.buildSlice 33 1 #[(0, t18)]) w fun t19 w =>
  ob Tryd.prog (fun _ => Builtin.append_ #[33, 33] 33 #[t15, t19]) w fun t20 w =>
  nilOk t11 = true ∧ mv t11 fun t21 =>
  o1 Tryd.prog (Instr.fieldAt 140 t21 0) w fun t22 w =>
  o0 Tryd.prog (Instr.storeAt 33 t22 t20) w fun _ w =>
  mv (x1 1) fun t9 =>
  o1 Tryd.prog (bin .shr 107 (.tmp 9) (.const (.int .u64 7)) t9 (.int .u64 7)) w fun t10 w =>
  mv t10 fun t1 =>
  I1 [t1] w ∧ μ1 [t1] w < μ1 [x1 1] w1) (fun _ =>
  mv a0 fun t23 =>
  mv a0 fun t24 =>
  nilOk t24 = true ∧ mv t24 fun t25 =>
  o1 Tryd.prog (Instr.fieldAt 140 t25 0) w fun t26 w =>
  o1 Tryd.prog (Instr.loadAt 33 t26) w fun t27 w =>
  mv (x1 1) fun t28 =>
  o1 Tryd.prog (convert 107 5 t28) w fun t29 w =>
  o1 Tryd.prog (Instr.buildSlice 33 1 #[(0, t29)]) w fun t30 w =>
  ob Tryd.prog (fun _ => Builtin.append_ #[33, 33] 33 #[t27, t30]) w fun t31 w =>
  nilOk t23 = true ∧ mv t23 fun t32 =>
  o1 Tryd.prog (Instr.fieldAt 140 t32 0) w fun t33 w =>
  o0 Tryd.prog (Instr.storeAt 33 t33 t31) w fun _ w =>
  mv a0 fun t34 =>
  mv t34 fun t4_2 =>
  k t4_2 w))
theorem C.pack_Writer_Uint {k : Value → World → Prop} {a0 a1 : Value} {w : World} (h : F.pack_Writer_Uint k a0 a1 w) : C Tryd.prog N.pack_Writer_Uint #[a0, a1] w k :=
  den_calls (H := { moves := [], vars := [1, 4] }) (args := [a0, a1]) mixed Tryd.func59 (by kernel_rfl) (by kernel_rfl) (by kernel_rfl) h

-- isthmus/types.putCommit
-- (*isthmus/pack.Reader).Text
-- (*isthmus/pack.Writer).Text
def F.pack_Writer_Text (k : Value → World → Prop) (a0 a1 : Value) (w : World) : Prop :=
  mv (.pointer none) fun t4 =>
  mv a0 fun t5 =>
  mv a1 fun t6 =>
  o1 Tryd.prog (convert 9 33 t6) w fun t7 w =>
  C Tryd.prog N.pack_Writer_Bytes #[t5, t7] w fun t8 w =>
  mv t8 fun t4_1 =>
  k t4_1 w
theorem C.pack_Writer_Text {k : Value → World → Prop} {a0 a1 : Value} {w : World} (h : F.pack_Writer_Text k a0 a1 w) : C Tryd.prog N.pack_Writer_Text #[a0, a1] w k :=
  den_calls (H := { moves := [], vars := [4] }) (args := [a0, a1]) mixed Tryd.func62 (by kernel_rfl) (by kernel_rfl) (by kernel_rfl) h

-- isthmus/keys.Check
def F.keys_Check (k : Value → World → Prop) (a0 : Value) (w : World) : Prop :=
  o1 Tryd.prog (Instr.box 53 a0) w fun t1 w =>
  mv .nilIface fun t2 =>
  o1 Tryd.prog (Instr.fieldAt 53 t1 0) w fun t3 w =>
  o1 Tryd.prog (Instr.loadAt 3 t3) w fun t4 w =>
  o1 Tryd.prog (bin .lss 3 (.tmp 4) (.const (.int .i64 1)) t4 (.int .i64 1)) w fun t5 w =>
  mv t5 fun t6 =>
  gd t6 false (fun k1 => o1 Tryd.prog (Instr.fieldAt 53 t1 0) w k1) w fun t7 w =>
  gd t6 false (fun k2 => o1 Tryd.prog (Instr.loadAt 3 t7) w k2) w fun t8 w =>
  gd t6 false (fun k3 => o1 Tryd.prog (bin .gtr 3 (.tmp 8) (.const (.int .i64 32)) t8 (.int .i64 32)) w k3) w fun t9 w =>
  pk t6 (.bool true) t9 fun t10 =>
  mv t10 fun t11 =>
  gd t11 false (fun k4 => o1 Tryd.prog (Instr.fieldAt 53 t1 1) w k4) w fun t12 w =>
  gd t11 false (fun k5 => o1 Tryd.prog (Instr.loadAt 3 t12) w k5) w fun t13 w =>
  gd t11 false (fun k6 => o1 Tryd.prog (bin .lss 3 (.tmp 13) (.const (.int .i64 0)) t13 (.int .i64 0)) w k6) w fun t14 w =>
  pk t11 (.bool true) t14 fun t15 =>
  mv t15 fun t16 =>
  gd t16 false (fun k7 => o1 Tryd.prog (Instr.fieldAt 53 t1 1) w k7) w fun t17 w =>
  gd t16 false (fun k8 => o1 Tryd.prog (Instr.loadAt 3 t17) w k8) w fun t18 w =>
  gd t16 false (fun k9 => o1 Tryd.prog (bin .gtr 3 (.tmp 18) (.const (.int .i64 10)) t18 (.int .i64 10)) w k9) w fun t19 w =>
  pk t16 (.bool true) t19 fun t20 =>
  br t20 (fun _ =>
  o1 Tryd.prog (Instr.makeInterface 80 (.int .i64 20)) w fun t21 w =>
  C Tryd.prog N.keys_fault #[.string ⟨#[112, 97, 114, 97, 109, 115]⟩, t21] w fun t22 w =>
  mv t22 fun t2_1 =>
  k t2_1 w) (fun _ =>
  mv .nilIface fun t2_2 =>
  k t2_2 w)
theorem C.keys_Check {k : Value → World → Prop} {a0 : Value} {w : World} (h : F.keys_Check k a0 w) : C Tryd.prog N.keys_Check #[a0] w k :=
  den_calls (H := { moves := [], vars := [2] }) (args := [a0]) mixed Tryd.func63 (by kernel_rfl) (by kernel_rfl) (by kernel_rfl) h

-- isthmus/keys.Verify
def F.keys_Verify (k : Value → World → Prop) (a0 a1 a2 a3 : Value) (w : World) : Prop :=
  o1 Tryd.prog (Instr.box 23 a0) w fun t4 w =>
  o1 Tryd.prog (Instr.box 53 a1) w fun t5 w =>
  mv .nilIface fun t8 =>
  o1 Tryd.prog (Instr.loadAt 53 t5) w fun t14 w =>
  C Tryd.prog N.keys_Check #[t14] w fun t15 w =>
  mv t15 fun t9 =>
  mv t9 fun t16 =>
  o1 Tryd.prog (bin .neq 37 (.tmp 16) (.const .nilIface) t16 .nilIface) w fun t17 w =>
  br t17 (fun _ =>
  mv t9 fun t18 =>
  mv t18 fun t8_1 =>
  k t8_1 w) (fun _ =>
  mv a3 fun t20 =>
  C Tryd.prog N.keys_read #[t20] w fun t21 w =>
  mv t21 fun t19 =>
  o1 Tryd.prog (Instr.extract t19 0) w fun t22 w =>
  o1 Tryd.prog (Instr.extract t19 1) w fun t23 w =>
  o1 Tryd.prog (Instr.alloc 146 true (.tuple #[])) w fun t10 w =>
  o0 Tryd.prog (Instr.storeAt 146 t10 t22) w fun _ w =>
  mv t23 fun t11 =>
  mv t11 fun t24 =>
  o1 Tryd.prog (bin .neq 37 (.tmp 24) (.const .nilIface) t24 .nilIface) w fun t25 w =>
  br t25 (fun _ =>
  mv t11 fun t26 =>
  mv t26 fun t8_2 =>
  k t8_2 w) (fun _ =>
  mv a2 fun t28 =>
  o1 Tryd.prog (Instr.fieldAt 53 t5 0) w fun t29 w =>
  o1 Tryd.prog (Instr.loadAt 3 t29) w fun t30 w =>
  C Tryd.prog N.wots_Digest #[t28, t30] w fun t31 w =>
  mv t31 fun t27 =>
  o1 Tryd.prog (Instr.extract t27 0) w fun t32 w =>
  o1 Tryd.prog (Instr.extract t27 1) w fun t33 w =>
  mv t32 fun t12 =>
  mv t33 fun t11_1 =>
  mv t11_1 fun t34 =>
  o1 Tryd.prog (bin .neq 37 (.tmp 34) (.const .nilIface) t34 .nilIface) w fun t35 w =>
  br t35 (fun _ =>
  mv t11_1 fun t36 =>
  mv t36 fun t8_3 =>
  k t8_3 w) (fun _ =>
  o1 Tryd.prog (Instr.fieldAt 146 t10 1) w fun t38 w =>
  o1 Tryd.prog (Instr.loadAt 33 t38) w fun t39 w =>
  o1 Tryd.prog (Instr.fieldAt 146 t10 0) w fun t40 w =>
  o1 Tryd.prog (Instr.loadAt 3 t40) w fun t41 w =>
  mv t12 fun t42 =>
  C Tryd.prog N.wots_From #[t39, t41, t42] w fun t43 w =>
  mv t43 fun t37 =>
  o1 Tryd.prog (Instr.extract t37 0) w fun t44 w =>
  o1 Tryd.prog (Instr.extract t37 1) w fun t45 w =>
  o1 Tryd.prog (Instr.alloc 23 true (.tuple #[])) w fun t13 w =>
  o0 Tryd.prog (Instr.storeAt 23 t13 t44) w fun _ w =>
  mv t45 fun t11_2 =>
  mv t11_2 fun t46 =>
  o1 Tryd.prog (bin .neq 37 (.tmp 46) (.const .nilIface) t46 .nilIface) w fun t47 w =>
  br t47 (fun _ =>
  o1 Tryd.prog (Instr.makeInterface 80 (.int .i64 21)) w fun t48 w =>
  C Tryd.prog N.keys_fault #[.string ⟨#[99, 104, 97, 105, 110, 115]⟩, t48] w fun t49 w =>
  mv t49 fun t8_4 =>
  k t8_4 w) (fun _ =>
  dr w.drew fun S1 =>
  tk Tryd.prog S1 (Instr.loadAt 23 t13) fun t51 =>
  tk Tryd.prog S1 (Instr.fieldAt 146 t10 0) fun t52 =>
  tk Tryd.prog S1 (Instr.loadAt 3 t52) fun t53 =>
  tk Tryd.prog S1 (Instr.fieldAt 53 t5 1) fun t54 =>
  tk Tryd.prog S1 (Instr.loadAt 3 t54) fun t55 =>
  tk Tryd.prog S1 (bin .shl 3 (.const (.int .i64 1)) (.tmp 55) (.int .i64 1) t55) fun t56 =>
  tk Tryd.prog S1 (Instr.fieldAt 146 t10 2) fun t57 =>
  tk Tryd.prog S1 (Instr.loadAt 144 t57) fun t58 =>
  C Tryd.prog N.sha_Fold #[t51, t53, t56, t58] w.drew fun t59 w =>
  S1 w ∧
  mv t59 fun t50 =>
  tk Tryd.prog S1 (Instr.extract t50 0) fun t60 =>
  tk Tryd.prog (fun _ => True) (Instr.extract t50 1) fun t61 =>
  o0 Tryd.prog (Instr.storeAt 23 t13 t60) w fun _ w =>
  mv t61 fun t11_3 =>
  mv t11_3 fun t62 =>
  o1 Tryd.prog (bin .neq 37 (.tmp 62) (.const .nilIface) t62 .nilIface) w fun t63 w =>
  mv t63 fun t64 =>
  gd t64 false (fun k1 => o1 Tryd.prog (Instr.loadAt 23 t13) w k1) w fun t65 w =>
  gd t64 false (fun k2 => o1 Tryd.prog (Instr.loadAt 23 t4) w k2) w fun t66 w =>
  gd t64 false (fun k3 => o1 Tryd.prog (bin .neq 23 (.tmp 65) (.tmp 66) t65 t66) w k3) w fun t67 w =>
  pk t64 (.bool true) t67 fun t68 =>
  br t68 (fun _ =>
  o1 Tryd.prog (Instr.makeInterface 80 (.int .i64 21)) w fun t69 w =>
  C Tryd.prog N.keys_fault #[.string ⟨#[114, 111, 111, 116]⟩, t69] w fun t70 w =>
  mv t70 fun t8_5 =>
  k t8_5 w) (fun _ =>
  mv .nilIface fun t8_6 =>
  k t8_6 w)))))
theorem C.keys_Verify {k : Value → World → Prop} {a0 a1 a2 a3 : Value} {w : World} (h : F.keys_Verify k a0 a1 a2 a3 w) : C Tryd.prog N.keys_Verify #[a0, a1, a2, a3] w k :=
  den_calls (H := { moves := [(13, (.take 0 (.take 1 (.take 2 (.take 3 (.take 4 (.take 5 (.take 6 (.take 7 (.force 8 (.take 9 (.take 10 (.pure 11 (.late 12 (.pure 13 .fin)))))))))))))))], vars := [8, 9, 11, 12] }) (args := [a0, a1, a2, a3]) mixed Tryd.func64 (by kernel_rfl) (by kernel_rfl) (by kernel_rfl) h

-- isthmus/types.VoteBytes
def F.types_VoteBytes (k : Value → World → Prop) (a0 a1 : Value) (w : World) : Prop :=
  o1 Tryd.prog (Instr.box 35 a1) w fun t3 w =>
  mv (.slice none 0 0) fun t4 =>
  dr w.drew fun S1 =>
  mv a0 fun t7 =>
  tk Tryd.prog S1 (Instr.fieldAt 35 t3 0) fun t9 =>
  tk Tryd.prog S1 (Instr.loadAt 3 t9) fun t10 =>
  tk Tryd.prog S1 (Instr.fieldAt 35 t3 1) fun t12 =>
  tk Tryd.prog S1 (Instr.loadAt 3 t12) fun t13 =>
  tk Tryd.prog S1 (Instr.fieldAt 35 t3 2) fun t15 =>
  tk Tryd.prog S1 (Instr.loadAt 3 t15) fun t16 =>
  tk Tryd.prog S1 (Instr.fieldAt 35 t3 3) fun t18 =>
  tk Tryd.prog S1 (Instr.loadAt 23 t18) fun t19 =>
  C Tryd.prog N.pack_New #[] w.drew fun t5 w =>
  S1 w ∧
  C Tryd.prog N.pack_Writer_Text #[t5, .string ⟨#[118, 111, 116, 101]⟩] w fun t6 w =>
  S1 w ∧
  C Tryd.prog N.pack_Writer_Text #[t6, t7] w fun t8 w =>
  S1 w ∧
  C Tryd.prog N.pack_Writer_Int #[t8, t10] w fun t11 w =>
  S1 w ∧
  C Tryd.prog N.pack_Writer_Int #[t11, t13] w fun t14 w =>
  S1 w ∧
  C Tryd.prog N.pack_Writer_Int #[t14, t16] w fun t17 w =>
  S1 w ∧
  C Tryd.prog N.pack_Writer_Hash #[t17, t19] w fun t20 w =>
  S1 w ∧
  C Tryd.prog N.pack_Writer_Done #[t20] w fun t21 w =>
  S1 w ∧
  mv t21 fun t4_1 =>
  k t4_1 w
theorem C.types_VoteBytes {k : Value → World → Prop} {a0 a1 : Value} {w : World} (h : F.types_VoteBytes k a0 a1 w) : C Tryd.prog N.types_VoteBytes #[a0, a1] w k :=
  den_calls (H := { moves := [(1, (.take 2 (.take 4 (.take 5 (.take 7 (.take 8 (.take 10 (.take 11 (.take 13 (.take 14 (.force 0 (.force 1 (.force 3 (.force 6 (.force 9 (.force 12 (.force 15 (.force 16 (.take 17 .fin)))))))))))))))))))], vars := [4] }) (args := [a0, a1]) mixed Tryd.func65 (by kernel_rfl) (by kernel_rfl) (by kernel_rfl) h

-- slices.IndexFunc[[]isthmus/api.Vote,isthmus/api.Vote]
def F.slices_IndexFunc_api_Vote_api_Vote (k : Value → World → Prop) (a0 a1 : Value) (w : World) : Prop :=
  mv (.int .i64 0) fun t4 =>
  mv a0 fun t6 =>
  o1 Tryd.prog (Builtin.len_ #[27] 3 #[t6]) w fun t7 w =>
  mv (.int .i64 0) fun t8 =>
  lp [t4, undef, t8] w fun I1 μ1 => ∀ (x1 : Env) (w1 : World), I1 [x1 4, x1 5, x1 8] w1 →
  o1 Tryd.prog (bin .lss 3 (.tmp 8) (.tmp 7) (x1 8) t7) w1 fun t9 w =>
  br t9 (fun _ =>
  mv (x1 8) fun t10 =>
  mv t10 fun t5 =>
  mv a1 fun t11 =>
  mv a0 fun t12 =>
  mv t5 fun t13 =>
  o1 Tryd.prog (Instr.indexAt 27 t12 t13) w fun t14 w =>
  o1 Tryd.prog (Instr.loadAt 35 t14) w fun t15 w =>
  cv Tryd.prog t11 #[t15] w fun t16 w =>
  br t16 (fun _ =>
  mv t5 fun t17 =>
  mv t17 fun t4_1 =>
  k t4_1 w) (fun _ =>
  o1 Tryd.prog (bin .add 3 (.tmp 8) (.const (.int .i64 1)) (x1 8) (.int .i64 1)) w fun t18 w =>
  mv t18 fun t8_1 =>
  I1 [(x1 4), t5, t8_1] w ∧ μ1 [(x1 4), t5, t8_1] w < μ1 [x1 4, x1 5, x1 8] w1)) (fun _ =>
  mv (.int .i64 (-1)) fun t4_2 =>
  k t4_2 w)
theorem C.slices_IndexFunc_api_Vote_api_Vote {k : Value → World → Prop} {a0 a1 : Value} {w : World} (h : F.slices_IndexFunc_api_Vote_api_Vote k a0 a1 w) : C Tryd.prog N.slices_IndexFunc_api_Vote_api_Vote #[a0, a1] w k :=
  den_calls (H := { moves := [], vars := [4, 5, 8] }) (args := [a0, a1]) mixed Tryd.func66 (by kernel_rfl) (by kernel_rfl) (by kernel_rfl) h

-- slices.IndexFunc[[]isthmus/api.Validator,isthmus/api.Validator]
def F.slices_IndexFunc_api_Validator_api_Validator (k : Value → World → Prop) (a0 a1 : Value) (w : World) : Prop :=
  mv (.int .i64 0) fun t4 =>
  mv a0 fun t6 =>
  o1 Tryd.prog (Builtin.len_ #[51] 3 #[t6]) w fun t7 w =>
  mv (.int .i64 0) fun t8 =>
  lp [t4, undef, t8] w fun I1 μ1 => ∀ (x1 : Env) (w1 : World), I1 [x1 4, x1 5, x1 8] w1 →
  o1 Tryd.prog (bin .lss 3 (.tmp 8) (.tmp 7) (x1 8) t7) w1 fun t9 w =>
  br t9 (fun _ =>
  mv (x1 8) fun t10 =>
  mv t10 fun t5 =>
  mv a1 fun t11 =>
  mv a0 fun t12 =>
  mv t5 fun t13 =>
  o1 Tryd.prog (Instr.indexAt 51 t12 t13) w fun t14 w =>
  o1 Tryd.prog (Instr.loadAt 59 t14) w fun t15 w =>
  cv Tryd.prog t11 #[t15] w fun t16 w =>
  br t16 (fun _ =>
  mv t5 fun t17 =>
  mv t17 fun t4_1 =>
  k t4_1 w) (fun _ =>
  o1 Tryd.prog (bin .add 3 (.tmp 8) (.const (.int .i64 1)) (x1 8) (.int .i64 1)) w fun t18 w =>
  mv t18 fun t8_1 =>
  I1 [(x1 4), t5, t8_1] w ∧ μ1 [(x1 4), t5, t8_1] w < μ1 [x1 4, x1 5, x1 8] w1)) (fun _ =>
  mv (.int .i64 (-1)) fun t4_2 =>
  k t4_2 w)
theorem C.slices_IndexFunc_api_Validator_api_Validator {k : Value → World → Prop} {a0 a1 : Value} {w : World} (h : F.slices_IndexFunc_api_Validator_api_Validator k a0 a1 w) : C Tryd.prog N.slices_IndexFunc_api_Validator_api_Validator #[a0, a1] w k :=
  den_calls (H := { moves := [], vars := [4, 5, 8] }) (args := [a0, a1]) mixed Tryd.func67 (by kernel_rfl) (by kernel_rfl) (by kernel_rfl) h

-- slices.ContainsFunc[[]byte,byte]
def F.slices_ContainsFunc_bytes (k : Value → World → Prop) (a0 a1 : Value) (w : World) : Prop :=
  mv (.bool false) fun t4 =>
  mv a0 fun t5 =>
  mv a1 fun t6 =>
  C Tryd.prog N.slices_IndexFunc_bytes #[t5, t6] w fun t7 w =>
  o1 Tryd.prog (bin .geq 3 (.tmp 7) (.const (.int .i64 0)) t7 (.int .i64 0)) w fun t8 w =>
  mv t8 fun t4_1 =>
  k t4_1 w
theorem C.slices_ContainsFunc_bytes {k : Value → World → Prop} {a0 a1 : Value} {w : World} (h : F.slices_ContainsFunc_bytes k a0 a1 w) : C Tryd.prog N.slices_ContainsFunc_bytes #[a0, a1] w k :=
  den_calls (H := { moves := [], vars := [4] }) (args := [a0, a1]) mixed Tryd.func68 (by kernel_rfl) (by kernel_rfl) (by kernel_rfl) h

-- isthmus/types.named$1
def F.types_named_1 (k : Value → World → Prop) (a0 : Value) (w : World) : Prop :=
  mv (.bool false) fun t2 =>
  mv a0 fun t3 =>
  o1 Tryd.prog (bin .lss 5 (.tmp 3) (.const (.int .u8 33)) t3 (.int .u8 33)) w fun t4 w =>
  mv t4 fun t5 =>
  gd t5 false (fun k1 => mv a0 fun v => k1 v w) w fun t6 w =>
  gd t5 false (fun k2 => o1 Tryd.prog (bin .gtr 5 (.tmp 6) (.const (.int .u8 126)) t6 (.int .u8 126)) w k2) w fun t7 w =>
  pk t5 (.bool true) t7 fun t8 =>
  mv t8 fun t2_1 =>
  k t2_1 w
theorem C.types_named_1 {k : Value → World → Prop} {a0 : Value} {w : World} (h : F.types_named_1 k a0 w) : C Tryd.prog N.types_named_1 #[a0] w k :=
  den_calls (H := { moves := [], vars := [2] }) (args := [a0]) mixed Tryd.func69 (by kernel_rfl) (by kernel_rfl) (by kernel_rfl) h

-- errors.as
def F.errors_as (k : Value → World → Prop) (a0 a1 a2 a3 : Value) (w : World) : Prop :=
  o1 Tryd.prog (Instr.box 124 a2) w fun t6 w =>
  mv (.bool false) fun t8 =>
  lp [a0, t8, undef, undef, undef, undef, undef, undef, undef] w fun I1 μ1 => ∀ (x1 : Env) (w1 : World), I1 [x1 0, x1 8, x1 9, x1 10, x1 11, x1 12, x1 14, x1 15, x1 50] w1 →
  mv (x1 0) fun t16 =>
  oN Tryd.prog (callFunc N.internal_reflectlite_TypeOf #[t16]) w1 fun t17 w =>
  mv a3 fun t18 =>
  iv Tryd.prog t17 "AssignableTo" #[t18] w fun t19 w =>
  br t19 (fun _ =>
  o1 Tryd.prog (Instr.loadAt 124 t6) w fun t20 w =>
  oN Tryd.prog (callFunc N.internal_reflectlite_Value_Elem #[t20]) w fun t21 w =>
  mv (x1 0) fun t22 =>
  oN Tryd.prog (callFunc N.internal_reflectlite_ValueOf #[t22]) w fun t23 w =>
  oN Tryd.prog (callFunc N.internal_reflectlite_Value_Set #[t21, t23]) w fun t24 w =>
  mv (.bool true) fun t8_1 =>
  k t8_1 w) (fun _ =>
  mv (x1 0) fun t26 =>
  o1 Tryd.prog (Instr.typeAssert t26 37 161 true) w fun t27 w =>
  mv t27 fun t25 =>
  o1 Tryd.prog (Instr.extract t25 0) w fun t28 w =>
  o1 Tryd.prog (Instr.extract t25 1) w fun t29 w =>
  mv t28 fun t9 =>
  mv t29 fun t10 =>
  mv t10 fun t30 =>
  mv t30 fun t31 =>
  gd t31 true (fun k1 => mv t9 fun v => k1 v w) w fun t32 w =>
  gd t31 true (fun k2 => mv a1 fun v => k2 v w) w fun t33 w =>
  gd t31 true (fun k3 => iv Tryd.prog t32 "As" #[t33] w k3) w fun t34 w =>
  pk t31 t34 (.bool false) fun t35 =>
  br t35 (fun _ =>
  mv (.bool true) fun t8_2 =>
  k t8_2 w) (fun _ =>
  mv (x1 0) fun t36 =>
  o1 Tryd.prog (Instr.typeAssert t36 37 164 true) w fun t37 w =>
  o1 Tryd.prog (Instr.extract t37 1) w fun t38 w =>
  o1 Tryd.prog (Instr.extract t37 0) w fun t39 w =>
  br t38 (fun _ =>
  mv t39 fun t11 =>
  mv t11 fun t40 =>
  iv Tryd.prog t40 "Unwrap" #[] w fun t41 w =>
  mv t41 fun t0 =>
  mv t0 fun t42 =>
  o1 Tryd.prog (bin .eql 37 (.tmp 42) (.const .nilIface) t42 .nilIface) w fun t43 w =>
  br t43 (fun _ =>
  mv (.bool false) fun t8_3 =>
  k t8_3 w) (fun _ =>
  I1 [t0, (x1 8), t9, t10, t11, (x1 12), (x1 14), (x1 15), (x1 50)] w ∧ μ1 [t0, (x1 8), t9, t10, t11, (x1 12), (x1 14), (x1 15), (x1 50)] w < μ1 [x1 0, x1 8, x1 9, x1 10, x1 11, x1 12, x1 14, x1 15, x1 50] w1)) (fun _ =>
  o1 Tryd.prog (Instr.typeAssert t36 37 165 true) w fun t44 w =>
  o1 Tryd.prog (Instr.extract t44 1) w fun t45 w =>
  o1 Tryd.prog (Instr.extract t44 0) w fun t46 w =>
  br t45 (fun _ =>
  mv t46 fun t12 =>
  mv t12 fun t47 =>
  iv Tryd.prog t47 "Unwrap" #[] w fun t48 w =>
  o1 Tryd.prog (Builtin.len_ #[166] 3 #[t48]) w fun t49 w =>
  mv (.int .i64 0) fun t50 =>
  lp [(x1 8), (x1 14), t50] w fun I2 μ2 => ∀ (x2 : Env) (w2 : World), I2 [x2 8, x2 14, x2 50] w2 →
  o1 Tryd.prog (bin .lss 3 (.tmp 50) (.tmp 49) (x2 50) t49) w2 fun t51 w =>
  br t51 (fun _ =>
  jn (fun x3 => [x3 8, x3 14]) (fun k4 =>
  o1 Tryd.prog (Instr.indexAt 166 t48 (x2 50)) w fun t52 w =>
  o1 Tryd.prog (Instr.loadAt 37 t52) w fun t53 w =>
  mv t53 fun t14 =>
  mv t14 fun t54 =>
  o1 Tryd.prog (bin .eql 37 (.tmp 54) (.const .nilIface) t54 .nilIface) w fun t55 w =>
  br t55 (fun _ =>
  k4 [(x2 8), t14] w) (fun _ =>
  mv t14 fun t56 =>
  mv a1 fun t57 =>
  o1 Tryd.prog (Instr.loadAt 124 t6) w fun t58 w =>
  mv a3 fun t59 =>
  C Tryd.prog N.errors_as #[t56, t57, t58, t59] w fun t60 w =>
  br t60 (fun _ =>
  mv (.bool true) fun t8_4 =>
  k t8_4 w) (fun _ =>
  k4 [(x2 8), t14] w))) fun x3 w =>
  o1 Tryd.prog (bin .add 3 (.tmp 50) (.const (.int .i64 1)) (x2 50) (.int .i64 1)) w fun t61 w =>
  mv t61 fun t50_1 =>
  I2 [(x3 8), (x3 14), t50_1] w ∧ μ2 [(x3 8), (x3 14), t50_1] w < μ2 [x2 8, x2 14, x2 50] w2) (fun _ =>
  mv (.bool false) fun t8_5 =>
  k t8_5 w)) (fun _ =>
  mv t36 fun t15 =>
  mv (.bool false) fun t8_6 =>
  k t8_6 w))))
theorem C.errors_as {k : Value → World → Prop} {a0 a1 a2 a3 : Value} {w : World} (h : F.errors_as k a0 a1 a2 a3 w) : C Tryd.prog N.errors_as #[a0, a1, a2, a3] w k :=
  den_calls (H := { moves := [], vars := [0, 8, 9, 10, 11, 12, 14, 15, 50] }) (args := [a0, a1, a2, a3]) mixed Tryd.func73 (by kernel_rfl) (by kernel_rfl) (by kernel_rfl) h

-- (*isthmus/pack.Reader).live
def F.pack_Reader_live (k : Value → World → Prop) (a0 : Value) (w : World) : Prop :=
  mv (.bool false) fun t2 =>
  mv a0 fun t3 =>
  o1 Tryd.prog (bin .neq 89 (.tmp 3) (.const (.pointer none)) t3 (.pointer none)) w fun t4 w =>
  mv t4 fun t5 =>
  gd t5 true (fun k1 => mv a0 fun v => k1 v w) w fun t6 w =>
  gd t5 true (fun k2 => nilOk t6 = true ∧ mv t6 fun v => k2 v w) w fun t7 w =>
  gd t5 true (fun k3 => o1 Tryd.prog (Instr.fieldAt 134 t7 1) w k3) w fun t8 w =>
  gd t5 true (fun k4 => o1 Tryd.prog (Instr.loadAt 37 t8) w k4) w fun t9 w =>
  gd t5 true (fun k5 => o1 Tryd.prog (bin .eql 37 (.tmp 9) (.const .nilIface) t9 .nilIface) w k5) w fun t10 w =>
  pk t5 t10 (.bool false) fun t11 =>
  mv t11 fun t2_1 =>
  k t2_1 w
theorem C.pack_Reader_live {k : Value → World → Prop} {a0 : Value} {w : World} (h : F.pack_Reader_live k a0 w) : C Tryd.prog N.pack_Reader_live #[a0] w k :=
  den_calls (H := { moves := [], vars := [2] }) (args := [a0]) mixed Tryd.func74 (by kernel_rfl) (by kernel_rfl) (by kernel_rfl) h

-- (*isthmus/pack.Reader).Err
def F.pack_Reader_Err (k : Value → World → Prop) (a0 : Value) (w : World) : Prop :=
  mv .nilIface fun t2 =>
  mv a0 fun t3 =>
  o1 Tryd.prog (bin .eql 89 (.tmp 3) (.const (.pointer none)) t3 (.pointer none)) w fun t4 w =>
  br t4 (fun _ =>
  o1 Tryd.prog (Instr.makeInterface 80 (.int .i64 1)) w fun t5 w =>
  mv t5 fun t2_1 =>
  k t2_1 w) (fun _ =>
  mv a0 fun t6 =>
  nilOk t6 = true ∧ mv t6 fun t7 =>
  o1 Tryd.prog (Instr.fieldAt 134 t7 1) w fun t8 w =>
  o1 Tryd.prog (Instr.loadAt 37 t8) w fun t9 w =>
  mv t9 fun t2_2 =>
  k t2_2 w)
theorem C.pack_Reader_Err {k : Value → World → Prop} {a0 : Value} {w : World} (h : F.pack_Reader_Err k a0 w) : C Tryd.prog N.pack_Reader_Err #[a0] w k :=
  den_calls (H := { moves := [], vars := [2] }) (args := [a0]) mixed Tryd.func75 (by kernel_rfl) (by kernel_rfl) (by kernel_rfl) h

-- (*isthmus/pack.Reader).Uint
def F.pack_Reader_Uint (k : Value → World → Prop) (a0 a1 : Value) (w : World) : Prop :=
  mv (.int .u64 0) fun t4 =>
  mv a0 fun t8 =>
  C Tryd.prog N.pack_Reader_live #[t8] w fun t9 w =>
  o1 Tryd.prog (Op.unary .not t9) w fun t10 w =>
  br t10 (fun _ =>
  mv (.int .u64 0) fun t4_1 =>
  k t4_1 w) (fun _ =>
  mv a0 fun t12 =>
  nilOk t12 = true ∧ mv t12 fun t13 =>
  o1 Tryd.prog (Instr.fieldAt 134 t13 0) w fun t14 w =>
  o1 Tryd.prog (Instr.loadAt 33 t14) w fun t15 w =>
  C Tryd.prog N.pack_number #[t15] w fun t16 w =>
  mv t16 fun t11 =>
  o1 Tryd.prog (Instr.extract t11 0) w fun t17 w =>
  o1 Tryd.prog (Instr.extract t11 1) w fun t18 w =>
  o1 Tryd.prog (Instr.extract t11 2) w fun t19 w =>
  mv t17 fun t5 =>
  mv t18 fun t6 =>
  mv t19 fun t7 =>
  mv t7 fun t21 =>
  o1 Tryd.prog (bin .neq 80 (.tmp 21) (.const (.int .i64 0)) t21 (.int .i64 0)) w fun t22 w =>
  mv t22 fun t20 =>
  br t20 (fun _ =>
  mv a0 fun t23 =>
  mv t7 fun t24 =>
  C Tryd.prog N.pack_Reader_fail #[t23, .string ⟨#[110, 117, 109, 98, 101, 114]⟩, t24] w fun t25 w =>
  mv (.int .u64 0) fun t4_2 =>
  k t4_2 w) (fun _ =>
  mv t5 fun t27 =>
  mv a1 fun t28 =>
  o1 Tryd.prog (bin .gtr 107 (.tmp 27) (.tmp 28) t27 t28) w fun t29 w =>
  mv t29 fun t26 =>
  br t26 (fun _ =>
  mv a0 fun t30 =>
  C Tryd.prog N.pack_Reader_fail #[t30, .string ⟨#[110, 117, 109, 98, 101, 114]⟩, .int .i64 4] w fun t31 w =>
  mv (.int .u64 0) fun t4_3 =>
  k t4_3 w) (fun _ =>
  mv a0 fun t32 =>
  mv a0 fun t33 =>
  nilOk t33 = true ∧ mv t33 fun t34 =>
  o1 Tryd.prog (Instr.fieldAt 134 t34 0) w fun t35 w =>
  o1 Tryd.prog (Instr.loadAt 33 t35) w fun t36 w =>
  mv t6 fun t37 =>
  o1 Tryd.prog (Instr.sliceAt 33 t36 (some t37) none none) w fun t38 w =>
  nilOk t32 = true ∧ mv t32 fun t39 =>
  o1 Tryd.prog (Instr.fieldAt 134 t39 0) w fun t40 w =>
  o0 Tryd.prog (Instr.storeAt 33 t40 t38) w fun _ w =>
  mv t5 fun t41 =>
  mv t41 fun t4_4 =>
  k t4_4 w)))
theorem C.pack_Reader_Uint {k : Value → World → Prop} {a0 a1 : Value} {w : World} (h : F.pack_Reader_Uint k a0 a1 w) : C Tryd.prog N.pack_Reader_Uint #[a0, a1] w k :=
  den_calls (H := { moves := [], vars := [4, 5, 6, 7, 20, 26] }) (args := [a0, a1]) mixed Tryd.func76 (by kernel_rfl) (by kernel_rfl) (by kernel_rfl) h

-- (*isthmus/pack.Reader).take
def F.pack_Reader_take (k : Value → World → Prop) (a0 a1 a2 : Value) (w : World) : Prop :=
  mv (.slice none 0 0) fun t6 =>
  mv a0 fun t8 =>
  C Tryd.prog N.pack_Reader_live #[t8] w fun t9 w =>
  o1 Tryd.prog (Op.unary .not t9) w fun t10 w =>
  br t10 (fun _ =>
  mv (.slice none 0 0) fun t6_1 =>
  k t6_1 w) (fun _ =>
  mv a0 fun t11 =>
  nilOk t11 = true ∧ mv t11 fun t12 =>
  o1 Tryd.prog (Instr.fieldAt 134 t12 0) w fun t13 w =>
  o1 Tryd.prog (Instr.loadAt 33 t13) w fun t14 w =>
  o1 Tryd.prog (Builtin.len_ #[33] 3 #[t14]) w fun t15 w =>
  mv a2 fun t16 =>
  o1 Tryd.prog (bin .lss 3 (.tmp 15) (.tmp 16) t15 t16) w fun t17 w =>
  br t17 (fun _ =>
  mv a0 fun t18 =>
  mv a1 fun t19 =>
  C Tryd.prog N.pack_Reader_fail #[t18, t19, .int .i64 12] w fun t20 w =>
  mv (.slice none 0 0) fun t6_2 =>
  k t6_2 w) (fun _ =>
  mv a0 fun t21 =>
  nilOk t21 = true ∧ mv t21 fun t22 =>
  o1 Tryd.prog (Instr.fieldAt 134 t22 0) w fun t23 w =>
  o1 Tryd.prog (Instr.loadAt 33 t23) w fun t24 w =>
  mv a2 fun t25 =>
  o1 Tryd.prog (Instr.sliceAt 33 t24 none (some t25) none) w fun t26 w =>
  ob Tryd.prog (fun _ => Builtin.append_ #[33, 33] 33 #[.slice none 0 0, t26]) w fun t27 w =>
  mv t27 fun t7 =>
  mv a0 fun t28 =>
  mv a0 fun t29 =>
  nilOk t29 = true ∧ mv t29 fun t30 =>
  o1 Tryd.prog (Instr.fieldAt 134 t30 0) w fun t31 w =>
  o1 Tryd.prog (Instr.loadAt 33 t31) w fun t32 w =>
  mv a2 fun t33 =>
  o1 Tryd.prog (Instr.sliceAt 33 t32 (some t33) none none) w fun t34 w =>
  nilOk t28 = true ∧ mv t28 fun t35 =>
  o1 Tryd.prog (Instr.fieldAt 134 t35 0) w fun t36 w =>
  o0 Tryd.prog (Instr.storeAt 33 t36 t34) w fun _ w =>
  mv t7 fun t37 =>
  mv t37 fun t6_3 =>
  k t6_3 w))
theorem C.pack_Reader_take {k : Value → World → Prop} {a0 a1 a2 : Value} {w : World} (h : F.pack_Reader_take k a0 a1 a2 w) : C Tryd.prog N.pack_Reader_take #[a0, a1, a2] w k :=
  den_calls (H := { moves := [], vars := [6, 7] }) (args := [a0, a1, a2]) mixed Tryd.func77 (by kernel_rfl) (by kernel_rfl) (by kernel_rfl) h

-- (*isthmus/pack.Reader).fail
def F.pack_Reader_fail (k : Value → World → Prop) (a0 a1 a2 : Value) (w : World) : Prop :=
  mv a0 fun t6 =>
  o1 Tryd.prog (bin .neq 89 (.tmp 6) (.const (.pointer none)) t6 (.pointer none)) w fun t7 w =>
  mv t7 fun t8 =>
  gd t8 true (fun k1 => mv a0 fun v => k1 v w) w fun t9 w =>
  gd t8 true (fun k2 => nilOk t9 = true ∧ mv t9 fun v => k2 v w) w fun t10 w =>
  gd t8 true (fun k3 => o1 Tryd.prog (Instr.fieldAt 134 t10 1) w k3) w fun t11 w =>
  gd t8 true (fun k4 => o1 Tryd.prog (Instr.loadAt 37 t11) w k4) w fun t12 w =>
  gd t8 true (fun k5 => o1 Tryd.prog (bin .eql 37 (.tmp 12) (.const .nilIface) t12 .nilIface) w k5) w fun t13 w =>
  pk t8 t13 (.bool false) fun t14 =>
  jn (fun x1 => []) (fun k6 =>
  br t14 (fun _ =>
  mv a0 fun t15 =>
  mv a1 fun t16 =>
  mv a2 fun t17 =>
  o1 Tryd.prog (Instr.makeInterface 80 t17) w fun t18 w =>
  o1 Tryd.prog (Instr.build 113 #[(0, t16), (1, t18)]) w fun t19 w =>
  o1 Tryd.prog (Instr.box 113 t19) w fun t20 w =>
  o1 Tryd.prog (Instr.makeInterface 111 t20) w fun t21 w =>
  nilOk t15 = true ∧ mv t15 fun t22 =>
  o1 Tryd.prog (Instr.fieldAt 134 t22 1) w fun t23 w =>
  o0 Tryd.prog (Instr.storeAt 37 t23 t21) w fun _ w =>
  k6 [] w) (fun _ =>
  k6 [] w)) fun x1 w =>
  k (.tuple #[]) w
theorem C.pack_Reader_fail {k : Value → World → Prop} {a0 a1 a2 : Value} {w : World} (h : F.pack_Reader_fail k a0 a1 a2 w) : C Tryd.prog N.pack_Reader_fail #[a0, a1, a2] w k :=
  den_calls (H := { moves := [], vars := [] }) (args := [a0, a1, a2]) mixed Tryd.func78 (by kernel_rfl) (by kernel_rfl) (by kernel_rfl) h

-- (*isthmus/pack.Writer).raw
def F.pack_Writer_raw (k : Value → World → Prop) (a0 a1 : Value) (w : World) : Prop :=
  mv (.pointer none) fun t4 =>
  mv a0 fun t5 =>
  o1 Tryd.prog (bin .neq 95 (.tmp 5) (.const (.pointer none)) t5 (.pointer none)) w fun t6 w =>
  jn (fun x1 => []) (fun k1 =>
  br t6 (fun _ =>
  mv a0 fun t7 =>
  mv a0 fun t8 =>
  nilOk t8 = true ∧ mv t8 fun t9 =>
  o1 Tryd.prog (Instr.fieldAt 140 t9 0) w fun t10 w =>
  o1 Tryd.prog (Instr.loadAt 33 t10) w fun t11 w =>
  mv a1 fun t12 =>
  ob Tryd.prog (fun _ => Builtin.append_ #[33, 33] 33 #[t11, t12]) w fun t13 w =>
  nilOk t7 = true ∧ mv t7 fun t14 =>
  o1 Tryd.prog (Instr.fieldAt 140 t14 0) w fun t15 w =>
  o0 Tryd.prog (Instr.storeAt 33 t15 t13) w fun _ w =>
  k1 [] w) (fun _ =>
  k1 [] w)) fun x1 w =>
  mv a0 fun t16 =>
  mv t16 fun t4_1 =>
  k t4_1 w
theorem C.pack_Writer_raw {k : Value → World → Prop} {a0 a1 : Value} {w : World} (h : F.pack_Writer_raw k a0 a1 w) : C Tryd.prog N.pack_Writer_raw #[a0, a1] w k :=
  den_calls (H := { moves := [], vars := [4] }) (args := [a0, a1]) mixed Tryd.func79 (by kernel_rfl) (by kernel_rfl) (by kernel_rfl) h

-- isthmus/isthmusref02.Uint
-- isthmus/keys.fault
def F.keys_fault (k : Value → World → Prop) (a0 a1 : Value) (w : World) : Prop :=
  mv .nilIface fun t4 =>
  mv a0 fun t5 =>
  mv a1 fun t6 =>
  o1 Tryd.prog (Instr.build 113 #[(0, t5), (1, t6)]) w fun t7 w =>
  o1 Tryd.prog (Instr.box 113 t7) w fun t8 w =>
  o1 Tryd.prog (Instr.makeInterface 111 t8) w fun t9 w =>
  mv t9 fun t4_1 =>
  k t4_1 w
theorem C.keys_fault {k : Value → World → Prop} {a0 a1 : Value} {w : World} (h : F.keys_fault k a0 a1 w) : C Tryd.prog N.keys_fault #[a0, a1] w k :=
  den_calls (H := { moves := [], vars := [4] }) (args := [a0, a1]) mixed Tryd.func81 (by kernel_rfl) (by kernel_rfl) (by kernel_rfl) h

-- isthmus/keys.read
def F.keys_read (k : Value → World → Prop) (a0 : Value) (w : World) : Prop :=
  o1 Tryd.prog (Instr.alloc 146 true (.tuple #[])) w fun t2 w =>
  mv .nilIface fun t3 =>
  mv a0 fun t6 =>
  C Tryd.prog N.pack_Read #[t6] w fun t7 w =>
  mv t7 fun t4 =>
  mv t4 fun t8 =>
  C Tryd.prog N.pack_Reader_Uint #[t8, .int .u64 1023] w fun t9 w =>
  o1 Tryd.prog (convert 107 3 t9) w fun t10 w =>
  mv t4 fun t11 =>
  C Tryd.prog N.pack_Reader_Bytes #[t11, .int .i64 4096] w fun t12 w =>
  o1 Tryd.prog (Instr.build 146 #[(0, t10), (1, t12)]) w fun t13 w =>
  o1 Tryd.prog (Instr.alloc 146 true (.tuple #[])) w fun t5 w =>
  o0 Tryd.prog (Instr.storeAt 146 t5 t13) w fun _ w =>
  mv t4 fun t14 =>
  C Tryd.prog N.pack_Reader_Uint #[t14, .int .u64 10] w fun t15 w =>
  mv (.int .u64 0) fun t16 =>
  lp [t16] w fun I1 μ1 => ∀ (x1 : Env) (w1 : World), I1 [x1 16] w1 →
  o1 Tryd.prog (bin .lss 107 (.tmp 16) (.tmp 15) (x1 16) t15) w1 fun t17 w =>
  br t17 (fun _ =>
  dr w.drew fun S1 =>
  tk Tryd.prog S1 (Instr.fieldAt 146 t5 2) fun t18 =>
  tk Tryd.prog S1 (Instr.loadAt 144 t18) fun t19 =>
  mv t4 fun t20 =>
  C Tryd.prog N.pack_Reader_Hash #[t20] w.drew fun t21 w =>
  S1 w ∧
  o1 Tryd.prog (Instr.buildSlice 144 1 #[(0, t21)]) w fun t22 w =>
  S1 w ∧
  ob Tryd.prog (fun _ => Builtin.append_ #[144, 144] 144 #[t19, t22]) w fun t23 w =>
  S1 w ∧
  tk Tryd.prog S1 (Instr.fieldAt 146 t5 2) fun t24 =>
  o0 Tryd.prog (Instr.storeAt 144 t24 t23) w fun _ w =>
  o1 Tryd.prog (bin .add 107 (.tmp 16) (.const (.int .u64 1)) (x1 16) (.int .u64 1)) w fun t25 w =>
  mv t25 fun t16_1 =>
  I1 [t16_1] w ∧ μ1 [t16_1] w < μ1 [x1 16] w1) (fun _ =>
  mv t4 fun t26 =>
  C Tryd.prog N.pack_Reader_Done #[t26] w fun t27 w =>
  o1 Tryd.prog (bin .neq 37 (.tmp 27) (.const .nilIface) t27 .nilIface) w fun t28 w =>
  br t28 (fun _ =>
  o1 Tryd.prog (Instr.build 146 #[]) w fun t29 w =>
  o1 Tryd.prog (Instr.makeInterface 80 (.int .i64 3)) w fun t30 w =>
  C Tryd.prog N.keys_fault #[.string ⟨#[115, 105, 103, 110, 97, 116, 117, 114, 101]⟩, t30] w fun t31 w =>
  o0 Tryd.prog (Instr.storeAt 146 t2 t29) w fun _ w =>
  mv t31 fun t3_1 =>
  rc Tryd.prog 146 t2 w fun r0 =>
  k (.tuple #[r0, t3_1]) w) (fun _ =>
  o1 Tryd.prog (Instr.loadAt 146 t5) w fun t32 w =>
  o0 Tryd.prog (Instr.storeAt 146 t2 t32) w fun _ w =>
  mv .nilIface fun t3_2 =>
  rc Tryd.prog 146 t2 w fun r0 =>
  k (.tuple #[r0, t3_2]) w))
theorem C.keys_read {k : Value → World → Prop} {a0 : Value} {w : World} (h : F.keys_read k a0 w) : C Tryd.prog N.keys_read #[a0] w k :=
  den_calls (H := { moves := [(5, (.take 0 (.take 1 (.take 2 (.force 3 (.force 4 (.force 5 (.take 6 (.last 7)))))))))], vars := [3, 4, 16] }) (args := [a0]) mixed Tryd.func82 (by kernel_rfl) (by kernel_rfl) (by kernel_rfl) h

-- isthmus/wots.Digest
def F.wots_Digest (k : Value → World → Prop) (a0 a1 : Value) (w : World) : Prop :=
  mv (.slice none 0 0) fun t4 =>
  mv .nilIface fun t5 =>
  mv a1 fun t7 =>
  C Tryd.prog N.wots_digest #[t7] w fun t8 w =>
  o1 Tryd.prog (Op.unary .not t8) w fun t9 w =>
  br t9 (fun _ =>
  C Tryd.prog N.wots_fault #[.string ⟨#[100, 105, 103, 101, 115, 116]⟩, .int .i64 1] w fun t10 w =>
  mv (.slice none 0 0) fun t4_1 =>
  mv t10 fun t5_1 =>
  k (.tuple #[t4_1, t5_1]) w) (fun _ =>
  o1 Tryd.prog (Instr.buildSlice 33 1 #[(0, .int .u8 4)]) w fun t11 w =>
  mv a0 fun t12 =>
  ob Tryd.prog (fun _ => Builtin.append_ #[33, 33] 33 #[t11, t12]) w fun t13 w =>
  C Tryd.prog N.sha_Sum #[t13] w fun t14 w =>
  o1 Tryd.prog (Instr.alloc 23 true (.tuple #[])) w fun t6 w =>
  o0 Tryd.prog (Instr.storeAt 23 t6 t14) w fun _ w =>
  mv a1 fun t15 =>
  o1 Tryd.prog (Instr.sliceAt 23 t6 none (some t15) none) w fun t16 w =>
  ob Tryd.prog (fun _ => Builtin.append_ #[33, 33] 33 #[.slice none 0 0, t16]) w fun t17 w =>
  mv t17 fun t4_2 =>
  mv .nilIface fun t5_2 =>
  k (.tuple #[t4_2, t5_2]) w)
theorem C.wots_Digest {k : Value → World → Prop} {a0 a1 : Value} {w : World} (h : F.wots_Digest k a0 a1 w) : C Tryd.prog N.wots_Digest #[a0, a1] w k :=
  den_calls (H := { moves := [], vars := [4, 5] }) (args := [a0, a1]) mixed Tryd.func83 (by kernel_rfl) (by kernel_rfl) (by kernel_rfl) h

-- isthmus/wots.From
def F.wots_From (k : Value → World → Prop) (a0 a1 a2 : Value) (w : World) : Prop :=
  o1 Tryd.prog (Instr.alloc 23 true (.tuple #[])) w fun t6 w =>
  mv .nilIface fun t7 =>
  mv a1 fun t13 =>
  mv a2 fun t14 =>
  o1 Tryd.prog (Builtin.len_ #[33] 3 #[t14]) w fun t15 w =>
  C Tryd.prog N.wots_check #[t13, t15] w fun t16 w =>
  mv t16 fun t8 =>
  mv t8 fun t17 =>
  o1 Tryd.prog (bin .neq 37 (.tmp 17) (.const .nilIface) t17 .nilIface) w fun t18 w =>
  br t18 (fun _ =>
  o1 Tryd.prog (Instr.build 23 #[]) w fun t19 w =>
  mv t8 fun t20 =>
  o0 Tryd.prog (Instr.storeAt 23 t6 t19) w fun _ w =>
  mv t20 fun t7_1 =>
  rc Tryd.prog 23 t6 w fun r0 =>
  k (.tuple #[r0, t7_1]) w) (fun _ =>
  mv a0 fun t21 =>
  o1 Tryd.prog (Builtin.len_ #[33] 3 #[t21]) w fun t22 w =>
  mv a2 fun t23 =>
  o1 Tryd.prog (Builtin.len_ #[33] 3 #[t23]) w fun t24 w =>
  C Tryd.prog N.wots_Len #[t24] w fun t25 w =>
  o1 Tryd.prog (bin .mul 3 (.const (.int .i64 32)) (.tmp 25) (.int .i64 32) t25) w fun t26 w =>
  o1 Tryd.prog (bin .neq 3 (.tmp 22) (.tmp 26) t22 t26) w fun t27 w =>
  br t27 (fun _ =>
  o1 Tryd.prog (Instr.build 23 #[]) w fun t28 w =>
  C Tryd.prog N.wots_fault #[.string ⟨#[115, 105, 103, 110, 97, 116, 117, 114, 101]⟩, .int .i64 2] w fun t29 w =>
  o0 Tryd.prog (Instr.storeAt 23 t6 t28) w fun _ w =>
  mv t29 fun t7_2 =>
  rc Tryd.prog 23 t6 w fun r0 =>
  k (.tuple #[r0, t7_2]) w) (fun _ =>
  mv (.slice none 0 0) fun t9 =>
  mv a2 fun t30 =>
  C Tryd.prog N.wots_Digits #[t30] w fun t31 w =>
  o1 Tryd.prog (Builtin.len_ #[173] 3 #[t31]) w fun t32 w =>
  mv (.int .i64 0) fun t33 =>
  lp [t9, undef, undef, t33] w fun I1 μ1 => ∀ (x1 : Env) (w1 : World), I1 [x1 9, x1 10, x1 11, x1 33] w1 →
  o1 Tryd.prog (bin .lss 3 (.tmp 33) (.tmp 32) (x1 33) t32) w1 fun t34 w =>
  br t34 (fun _ =>
  mv (x1 33) fun t35 =>
  o1 Tryd.prog (Instr.indexAt 173 t31 (x1 33)) w fun t36 w =>
  o1 Tryd.prog (Instr.loadAt 3 t36) w fun t37 w =>
  mv t35 fun t10 =>
  mv t37 fun t11 =>
  mv a0 fun t38 =>
  mv t10 fun t39 =>
  o1 Tryd.prog (bin .mul 3 (.const (.int .i64 32)) (.tmp 39) (.int .i64 32) t39) w fun t40 w =>
  mv t10 fun t41 =>
  o1 Tryd.prog (bin .add 3 (.tmp 41) (.const (.int .i64 1)) t41 (.int .i64 1)) w fun t42 w =>
  o1 Tryd.prog (bin .mul 3 (.const (.int .i64 32)) (.tmp 42) (.int .i64 32) t42) w fun t43 w =>
  o1 Tryd.prog (Instr.sliceAt 33 t38 (some t40) (some t43) none) w fun t44 w =>
  o1 Tryd.prog (Instr.arrayAt 23 t44) w fun t45 w =>
  o1 Tryd.prog (Instr.loadAt 23 t45) w fun t46 w =>
  mv a1 fun t47 =>
  mv t10 fun t48 =>
  mv t11 fun t49 =>
  C Tryd.prog N.wots_Step #[t46, t47, t48, t49, .int .i64 15] w fun t50 w =>
  o1 Tryd.prog (Instr.alloc 23 true (.tuple #[])) w fun t12 w =>
  o0 Tryd.prog (Instr.storeAt 23 t12 t50) w fun _ w =>
  mv (x1 9) fun t51 =>
  o1 Tryd.prog (Instr.sliceAt 23 t12 none none none) w fun t52 w =>
  ob Tryd.prog (fun _ => Builtin.append_ #[33, 33] 33 #[t51, t52]) w fun t53 w =>
  mv t53 fun t9_1 =>
  o1 Tryd.prog (bin .add 3 (.tmp 33) (.const (.int .i64 1)) (x1 33) (.int .i64 1)) w fun t54 w =>
  mv t54 fun t33_1 =>
  I1 [t9_1, t10, t11, t33_1] w ∧ μ1 [t9_1, t10, t11, t33_1] w < μ1 [x1 9, x1 10, x1 11, x1 33] w1) (fun _ =>
  mv (x1 9) fun t55 =>
  C Tryd.prog N.sha_Leaf #[t55] w fun t56 w =>
  o0 Tryd.prog (Instr.storeAt 23 t6 t56) w fun _ w =>
  mv .nilIface fun t7_3 =>
  rc Tryd.prog 23 t6 w fun r0 =>
  k (.tuple #[r0, t7_3]) w)))
theorem C.wots_From {k : Value → World → Prop} {a0 a1 a2 : Value} {w : World} (h : F.wots_From k a0 a1 a2 w) : C Tryd.prog N.wots_From #[a0, a1, a2] w k :=
  den_calls (H := { moves := [], vars := [7, 8, 9, 10, 11, 33] }) (args := [a0, a1, a2]) mixed Tryd.func84 (by kernel_rfl) (by kernel_rfl) (by kernel_rfl) h

-- isthmus/sha.Fold
def F.sha_Fold (k : Value → World → Prop) (a0 a1 a2 a3 : Value) (w : World) : Prop :=
  o1 Tryd.prog (Instr.box 23 a0) w fun t4 w =>
  o1 Tryd.prog (Instr.alloc 23 true (.tuple #[])) w fun t8 w =>
  mv .nilIface fun t9 =>
  mv a1 fun t13 =>
  o1 Tryd.prog (bin .lss 3 (.tmp 13) (.const (.int .i64 0)) t13 (.int .i64 0)) w fun t14 w =>
  mv t14 fun t15 =>
  gd t15 false (fun k1 => mv a1 fun v => k1 v w) w fun t16 w =>
  gd t15 false (fun k2 => mv a2 fun v => k2 v w) w fun t17 w =>
  gd t15 false (fun k3 => o1 Tryd.prog (bin .geq 3 (.tmp 16) (.tmp 17) t16 t17) w k3) w fun t18 w =>
  pk t15 (.bool true) t18 fun t19 =>
  br t19 (fun _ =>
  o1 Tryd.prog (Instr.build 23 #[]) w fun t20 w =>
  o1 Tryd.prog (Instr.makeInterface 80 (.int .i64 1)) w fun t21 w =>
  o1 Tryd.prog (Instr.build 113 #[(0, .string ⟨#[112, 108, 97, 99, 101]⟩), (1, t21)]) w fun t22 w =>
  o1 Tryd.prog (Instr.box 113 t22) w fun t23 w =>
  o1 Tryd.prog (Instr.makeInterface 111 t23) w fun t24 w =>
  o0 Tryd.prog (Instr.storeAt 23 t8 t20) w fun _ w =>
  mv t24 fun t9_1 =>
  rc Tryd.prog 23 t8 w fun r0 =>
  k (.tuple #[r0, t9_1]) w) (fun _ =>
  mv a1 fun t25 =>
  mv a2 fun t26 =>
  C Tryd.prog N.sha_turns #[t25, t26] w fun t27 w =>
  mv t27 fun t10 =>
  mv t10 fun t28 =>
  o1 Tryd.prog (Builtin.len_ #[176] 3 #[t28]) w fun t29 w =>
  mv a3 fun t30 =>
  o1 Tryd.prog (Builtin.len_ #[144] 3 #[t30]) w fun t31 w =>
  o1 Tryd.prog (bin .neq 3 (.tmp 29) (.tmp 31) t29 t31) w fun t32 w =>
  br t32 (fun _ =>
  o1 Tryd.prog (Instr.build 23 #[]) w fun t33 w =>
  o1 Tryd.prog (Instr.makeInterface 80 (.int .i64 2)) w fun t34 w =>
  o1 Tryd.prog (Instr.build 113 #[(0, .string ⟨#[112, 97, 116, 104]⟩), (1, t34)]) w fun t35 w =>
  o1 Tryd.prog (Instr.box 113 t35) w fun t36 w =>
  o1 Tryd.prog (Instr.makeInterface 111 t36) w fun t37 w =>
  o0 Tryd.prog (Instr.storeAt 23 t8 t33) w fun _ w =>
  mv t37 fun t9_2 =>
  rc Tryd.prog 23 t8 w fun r0 =>
  k (.tuple #[r0, t9_2]) w) (fun _ =>
  mv a3 fun t38 =>
  o1 Tryd.prog (Builtin.len_ #[144] 3 #[t38]) w fun t39 w =>
  mv (.int .i64 0) fun t40 =>
  lp [undef, t40] w fun I1 μ1 => ∀ (x1 : Env) (w1 : World), I1 [x1 11, x1 40] w1 →
  o1 Tryd.prog (bin .lss 3 (.tmp 40) (.tmp 39) (x1 40) t39) w1 fun t41 w =>
  br t41 (fun _ =>
  mv (x1 40) fun t42 =>
  o1 Tryd.prog (Instr.indexAt 144 t38 (x1 40)) w fun t43 w =>
  o1 Tryd.prog (Instr.loadAt 23 t43) w fun t44 w =>
  o1 Tryd.prog (Instr.alloc 23 true (.tuple #[])) w fun t12 w =>
  mv t42 fun t11 =>
  o0 Tryd.prog (Instr.storeAt 23 t12 t44) w fun _ w =>
  mv t10 fun t45 =>
  mv t10 fun t46 =>
  o1 Tryd.prog (Builtin.len_ #[176] 3 #[t46]) w fun t47 w =>
  o1 Tryd.prog (bin .sub 3 (.tmp 47) (.const (.int .i64 1)) t47 (.int .i64 1)) w fun t48 w =>
  mv t11 fun t49 =>
  o1 Tryd.prog (bin .sub 3 (.tmp 48) (.tmp 49) t48 t49) w fun t50 w =>
  o1 Tryd.prog (Instr.indexAt 176 t45 t50) w fun t51 w =>
  o1 Tryd.prog (Instr.loadAt 4 t51) w fun t52 w =>
  jn (fun x2 => []) (fun k4 =>
  br t52 (fun _ =>
  o1 Tryd.prog (Instr.loadAt 23 t12) w fun t53 w =>
  o1 Tryd.prog (Instr.loadAt 23 t4) w fun t54 w =>
  C Tryd.prog N.sha_Node #[t53, t54] w fun t55 w =>
  o0 Tryd.prog (Instr.storeAt 23 t4 t55) w fun _ w =>
  k4 [] w) (fun _ =>
  o1 Tryd.prog (Instr.loadAt 23 t4) w fun t56 w =>
  o1 Tryd.prog (Instr.loadAt 23 t12) w fun t57 w =>
  C Tryd.prog N.sha_Node #[t56, t57] w fun t58 w =>
  o0 Tryd.prog (Instr.storeAt 23 t4 t58) w fun _ w =>
  k4 [] w)) fun x2 w =>
  o1 Tryd.prog (bin .add 3 (.tmp 40) (.const (.int .i64 1)) (x1 40) (.int .i64 1)) w fun t59 w =>
  mv t59 fun t40_1 =>
  I1 [t11, t40_1] w ∧ μ1 [t11, t40_1] w < μ1 [x1 11, x1 40] w1) (fun _ =>
  o1 Tryd.prog (Instr.loadAt 23 t4) w fun t60 w =>
  o0 Tryd.prog (Instr.storeAt 23 t8 t60) w fun _ w =>
  mv .nilIface fun t9_3 =>
  rc Tryd.prog 23 t8 w fun r0 =>
  k (.tuple #[r0, t9_3]) w)))
theorem C.sha_Fold {k : Value → World → Prop} {a0 a1 a2 a3 : Value} {w : World} (h : F.sha_Fold k a0 a1 a2 a3 w) : C Tryd.prog N.sha_Fold #[a0, a1, a2, a3] w k :=
  den_calls (H := { moves := [], vars := [9, 10, 11, 40] }) (args := [a0, a1, a2, a3]) mixed Tryd.func85 (by kernel_rfl) (by kernel_rfl) (by kernel_rfl) h

-- slices.IndexFunc[[]byte,byte]
def F.slices_IndexFunc_bytes (k : Value → World → Prop) (a0 a1 : Value) (w : World) : Prop :=
  mv (.int .i64 0) fun t4 =>
  mv a0 fun t6 =>
  o1 Tryd.prog (Builtin.len_ #[33] 3 #[t6]) w fun t7 w =>
  mv (.int .i64 0) fun t8 =>
  lp [t4, undef, t8] w fun I1 μ1 => ∀ (x1 : Env) (w1 : World), I1 [x1 4, x1 5, x1 8] w1 →
  o1 Tryd.prog (bin .lss 3 (.tmp 8) (.tmp 7) (x1 8) t7) w1 fun t9 w =>
  br t9 (fun _ =>
  mv (x1 8) fun t10 =>
  mv t10 fun t5 =>
  mv a1 fun t11 =>
  mv a0 fun t12 =>
  mv t5 fun t13 =>
  o1 Tryd.prog (Instr.indexAt 33 t12 t13) w fun t14 w =>
  o1 Tryd.prog (Instr.loadAt 5 t14) w fun t15 w =>
  cv Tryd.prog t11 #[t15] w fun t16 w =>
  br t16 (fun _ =>
  mv t5 fun t17 =>
  mv t17 fun t4_1 =>
  k t4_1 w) (fun _ =>
  o1 Tryd.prog (bin .add 3 (.tmp 8) (.const (.int .i64 1)) (x1 8) (.int .i64 1)) w fun t18 w =>
  mv t18 fun t8_1 =>
  I1 [(x1 4), t5, t8_1] w ∧ μ1 [(x1 4), t5, t8_1] w < μ1 [x1 4, x1 5, x1 8] w1)) (fun _ =>
  mv (.int .i64 (-1)) fun t4_2 =>
  k t4_2 w)
theorem C.slices_IndexFunc_bytes {k : Value → World → Prop} {a0 a1 : Value} {w : World} (h : F.slices_IndexFunc_bytes k a0 a1 w) : C Tryd.prog N.slices_IndexFunc_bytes #[a0, a1] w k :=
  den_calls (H := { moves := [], vars := [4, 5, 8] }) (args := [a0, a1]) mixed Tryd.func86 (by kernel_rfl) (by kernel_rfl) (by kernel_rfl) h

-- isthmus/pack.number
def F.pack_number (k : Value → World → Prop) (a0 : Value) (w : World) : Prop :=
  mv (.int .u64 0) fun t2 =>
  mv (.int .i64 0) fun t3 =>
  mv (.int .i64 0) fun t4 =>
  mv (.int .u64 0) fun t5 =>
  mv (.int .i64 0) fun t8 =>
  jn (fun x1 => [x1 2, x1 3, x1 4, x1 5, x1 6, x1 7, x1 8]) (fun k1 =>
  lp [t2, t3, t4, t5, undef, undef, t8] w fun I2 μ2 => ∀ (x2 : Env) (w1 : World), I2 [x2 2, x2 3, x2 4, x2 5, x2 6, x2 7, x2 8] w1 →
  o1 Tryd.prog (bin .lss 3 (.tmp 8) (.const (.int .i64 10)) (x2 8) (.int .i64 10)) w1 fun t9 w =>
  br t9 (fun _ =>
  mv (x2 8) fun t10 =>
  mv t10 fun t6 =>
  mv t6 fun t11 =>
  mv a0 fun t12 =>
  o1 Tryd.prog (Builtin.len_ #[33] 3 #[t12]) w fun t13 w =>
  o1 Tryd.prog (bin .eql 3 (.tmp 11) (.tmp 13) t11 t13) w fun t14 w =>
  br t14 (fun _ =>
  mv (.int .u64 0) fun t2_1 =>
  mv (.int .i64 0) fun t3_1 =>
  mv (.int .i64 12) fun t4_1 =>
  k (.tuple #[t2_1, t3_1, t4_1]) w) (fun _ =>
  mv a0 fun t15 =>
  mv t6 fun t16 =>
  o1 Tryd.prog (Instr.indexAt 33 t15 t16) w fun t17 w =>
  o1 Tryd.prog (Instr.loadAt 5 t17) w fun t18 w =>
  mv t18 fun t7 =>
  mv t6 fun t19 =>
  o1 Tryd.prog (bin .eql 3 (.tmp 19) (.const (.int .i64 9)) t19 (.int .i64 9)) w fun t20 w =>
  mv t20 fun t21 =>
  gd t21 true (fun k2 => mv t7 fun v => k2 v w) w fun t22 w =>
  gd t21 true (fun k3 => o1 Tryd.prog (bin .gtr 5 (.tmp 22) (.const (.int .u8 1)) t22 (.int .u8 1)) w k3) w fun t23 w =>
  pk t21 t23 (.bool false) fun t24 =>
  br t24 (fun _ =>
  k1 [(x2 2), (x2 3), (x2 4), (x2 5), t6, t7, (x2 8)] w) (fun _ =>
  mv (x2 5) fun t25 =>
  mv t7 fun t26 =>
  o1 Tryd.prog (bin .andNot 5 (.tmp 26) (.const (.int .u8 128)) t26 (.int .u8 128)) w fun t27 w =>
  o1 Tryd.prog (convert 5 107 t27) w fun t28 w =>
  mv t6 fun t29 =>
  o1 Tryd.prog (bin .mul 3 (.const (.int .i64 7)) (.tmp 29) (.int .i64 7) t29) w fun t30 w =>
  o1 Tryd.prog (convert 3 136 t30) w fun t31 w =>
  o1 Tryd.prog (bin .shl 107 (.tmp 28) (.tmp 31) t28 t31) w fun t32 w =>
  o1 Tryd.prog (bin .or 107 (.tmp 25) (.tmp 32) t25 t32) w fun t33 w =>
  mv t33 fun t5_1 =>
  mv t7 fun t34 =>
  o1 Tryd.prog (bin .lss 5 (.tmp 34) (.const (.int .u8 128)) t34 (.int .u8 128)) w fun t35 w =>
  br t35 (fun _ =>
  mv t7 fun t36 =>
  o1 Tryd.prog (bin .eql 5 (.tmp 36) (.const (.int .u8 0)) t36 (.int .u8 0)) w fun t37 w =>
  mv t37 fun t38 =>
  gd t38 true (fun k4 => mv t6 fun v => k4 v w) w fun t39 w =>
  gd t38 true (fun k5 => o1 Tryd.prog (bin .gtr 3 (.tmp 39) (.const (.int .i64 0)) t39 (.int .i64 0)) w k5) w fun t40 w =>
  pk t38 t40 (.bool false) fun t41 =>
  br t41 (fun _ =>
  k1 [(x2 2), (x2 3), (x2 4), t5_1, t6, t7, (x2 8)] w) (fun _ =>
  mv t5_1 fun t42 =>
  mv t6 fun t43 =>
  o1 Tryd.prog (bin .add 3 (.tmp 43) (.const (.int .i64 1)) t43 (.int .i64 1)) w fun t44 w =>
  mv t42 fun t2_2 =>
  mv t44 fun t3_2 =>
  mv (.int .i64 0) fun t4_2 =>
  k (.tuple #[t2_2, t3_2, t4_2]) w)) (fun _ =>
  o1 Tryd.prog (bin .add 3 (.tmp 8) (.const (.int .i64 1)) (x2 8) (.int .i64 1)) w fun t45 w =>
  mv t45 fun t8_1 =>
  I2 [(x2 2), (x2 3), (x2 4), t5_1, t6, t7, t8_1] w ∧ μ2 [(x2 2), (x2 3), (x2 4), t5_1, t6, t7, t8_1] w < μ2 [x2 2, x2 3, x2 4, x2 5, x2 6, x2 7, x2 8] w1)))) (fun _ =>
  k1 [(x2 2), (x2 3), (x2 4), (x2 5), (x2 6), (x2 7), (x2 8)] w)) fun x1 w =>
  mv (.int .u64 0) fun t2_3 =>
  mv (.int .i64 0) fun t3_3 =>
  mv (.int .i64 3) fun t4_3 =>
  k (.tuple #[t2_3, t3_3, t4_3]) w
theorem C.pack_number {k : Value → World → Prop} {a0 : Value} {w : World} (h : F.pack_number k a0 w) : C Tryd.prog N.pack_number #[a0] w k :=
  den_calls (H := { moves := [], vars := [2, 3, 4, 5, 6, 7, 8] }) (args := [a0]) mixed Tryd.func90 (by kernel_rfl) (by kernel_rfl) (by kernel_rfl) h

end Go.Proofs.YtlfelmikcdmkhaaDoor
