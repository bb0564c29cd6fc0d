/- What each function asks: printed by hoas.py off the loaded program; each is held against the program by the kernel. -/
import Derived.Test.YtlfelmikcdmkhaaDoorN
set_option linter.unusedVariables false
set_option linter.unusedSimpArgs false
set_option linter.unusedSectionVars false
namespace Go.Proofs.YtlfelmikcdmkhaaDoor
open Go Go.Isk
set_option maxRecDepth 100000
-- isthmus/types.getCommit
def F.types_getCommit (k : Value → World → Prop) (a0 : Value) (w : World) : Prop :=
  o1 Tryd.prog (Instr.alloc 29 true (.tuple #[])) w fun t2 w =>
  mv a0 fun t4 =>
  C Tryd.prog N.pack_Reader_Int #[t4] w fun t5 w =>
  mv a0 fun t6 =>
  C Tryd.prog N.pack_Reader_Int #[t6] w fun t7 w =>
  mv a0 fun t8 =>
  C Tryd.prog N.pack_Reader_Hash #[t8] w fun t9 w =>
  o1 Tryd.prog (Instr.build 29 #[(0, t5), (1, t7), (2, t9)]) w fun t10 w =>
  o1 Tryd.prog (Instr.alloc 29 true (.tuple #[])) w fun t3 w =>
  o0 Tryd.prog (Instr.storeAt 29 t3 t10) w fun _ w =>
  mv a0 fun t11 =>
  C Tryd.prog N.pack_Reader_Count #[t11, .int .i64 32] w fun t12 w =>
  mv (.int .i64 0) fun t13 =>
  lp [t13] w fun I1 μ1 => ∀ (x1 : Env) (w1 : World), I1 [x1 13] w1 →
  o1 Tryd.prog (bin .lss 3 (.tmp 13) (.tmp 12) (x1 13) t12) w1 fun t14 w =>
  br t14 (fun _ =>
  dr w.drew fun S1 =>
  tk Tryd.prog S1 (Instr.fieldAt 29 t3 3) fun t15 =>
  tk Tryd.prog S1 (Instr.loadAt 27 t15) fun t16 =>
  mv a0 fun t17 =>
  C Tryd.prog N.types_getVote #[t17] w.drew fun t18 w =>
  S1 w ∧
  o1 Tryd.prog (Instr.buildSlice 27 1 #[(0, t18)]) w fun t19 w =>
  S1 w ∧
  ob Tryd.prog (fun _ => Builtin.append_ #[27, 27] 27 #[t16, t19]) w fun t20 w =>
  S1 w ∧
  tk Tryd.prog S1 (Instr.fieldAt 29 t3 3) fun t21 =>
  o0 Tryd.prog (Instr.storeAt 27 t21 t20) w fun _ w =>
  o1 Tryd.prog (bin .add 3 (.tmp 13) (.const (.int .i64 1)) (x1 13) (.int .i64 1)) w fun t22 w =>
  mv t22 fun t13_1 =>
  I1 [t13_1] w ∧ μ1 [t13_1] w < μ1 [x1 13] w1) (fun _ =>
  o1 Tryd.prog (Instr.loadAt 29 t3) w fun t23 w =>
  o0 Tryd.prog (Instr.storeAt 29 t2 t23) w fun _ w =>
  rc Tryd.prog 29 t2 w fun r0 =>
  k r0 w)
theorem C.types_getCommit {k : Value → World → Prop} {a0 : Value} {w : World} (h : F.types_getCommit k a0 w) : C Tryd.prog N.types_getCommit #[a0] w k :=
  den_calls (H := { moves := [(4, (.take 0 (.take 1 (.take 2 (.force 3 (.force 4 (.force 5 (.take 6 (.last 7)))))))))], vars := [13] }) (args := [a0]) mixed Tryd.func58 (by kernel_rfl) (by kernel_rfl) (by kernel_rfl) h

-- (*isthmus/pack.Writer).Uint
def F.pack_Writer_Uint (k : Value → World → Prop) (a0 a1 : Value) (w : World) : Prop :=
  mv (.pointer none) fun t4 =>
  mv a0 fun t5 =>
  o1 Tryd.prog (bin .eql 95 (.tmp 5) (.const (.pointer none)) t5 (.pointer none)) w fun t6 w =>
  br t6 (fun _ =>
  mv (.pointer none) fun t4_1 =>
  k t4_1 w) (fun _ =>
  lp [a1] w fun I1 μ1 => ∀ (x1 : Env) (w1 : World), I1 [x1 1] w1 →
  mv (x1 1) fun t7 =>
  o1 Tryd.prog (bin .geq 107 (.tmp 7) (.const (.int .u64 128)) t7 (.int .u64 128)) w1 fun t8 w =>
  br t8 (fun _ =>
  mv a0 fun t11 =>
  mv a0 fun t12 =>
  nilOk t12 = true ∧ mv t12 fun t13 =>
  o1 Tryd.prog (Instr.fieldAt 140 t13 0) w fun t14 w =>
  o1 Tryd.prog (Instr.loadAt 33 t14) w fun t15 w =>
  mv (x1 1) fun t16 =>
  o1 Tryd.prog (convert 107 5 t16) w fun t17 w =>
  o1 Tryd.prog (bin .or 5 (.tmp 17) (.const (.int .u8 128)) t17 (.int .u8 128)) w fun t18 w =>
  o1 Tryd.prog (Instr.buildSlice 33 1 #[(0, t18)]) w fun t19 w =>
  ob Tryd.prog (fun _ => Builtin.append_ #[33, 33] 33 #[t15, t19]) w fun t20 w =>
  nilOk t11 = true ∧ mv t11 fun t21 =>
  o1 Tryd.prog (Instr.fieldAt 140 t21 0) w fun t22 w =>
  o0 Tryd.prog (Instr.storeAt 33 t22 t20) w fun _ w =>
  mv (x1 1) fun t9 =>
  o1 Tryd.prog (bin .shr 107 (.tmp 9) (.const (.int .u64 7)) t9 (.int .u64 7)) w fun t10 w =>
  mv t10 fun t1 =>
  I1 [t1] w ∧ μ1 [t1] w < μ1 [x1 1] w1) (fun _ =>
  mv a0 fun t23 =>
  mv a0 fun t24 =>
  nilOk t24 = true ∧ mv t24 fun t25 =>
  o1 Tryd.prog (Instr.fieldAt 140 t25 0) w fun t26 w =>
  o1 Tryd.prog (Instr.loadAt 33 t26) w fun t27 w =>
  mv (x1 1) fun t28 =>
  o1 Tryd.prog (convert 107 5 t28) w fun t29 w =>
  o1 Tryd.prog (Instr.buildSlice 33 1 #[(0, t29)]) w fun t30 w =>
  ob Tryd.prog (fun _ => Builtin.append_ #[33, 33] 33 #[t27, t30]) w fun t31 w =>
  nilOk t23 = true ∧ mv t23 fun t32 =>
  o1 Tryd.prog (Instr.fieldAt 140 t32 0) w fun t33 w =>
  o0 Tryd.prog (Instr.storeAt 33 t33 t31) w fun _ w =>
  mv a0 fun t34 =>
  mv t34 fun t4_2 =>
  k t4_2 w))
theorem C.pack_Writer_Uint {k : Value → World → Prop} {a0 a1 : Value} {w : World} (h : F.pack_Writer_Uint k a0 a1 w) : C Tryd.prog N.pack_Writer_Uint #[a0, a1] w k :=
  den_calls (H := { moves := [], vars := [1, 4] }) (args := [a0, a1]) mixed Tryd.func59 (by kernel_rfl) (by kernel_rfl) (by kernel_rfl) h

-- isthmus/types.putCommit
def F.types_putCommit (k : Value → World → Prop) (a0 a1 : Value) (w : World) : Prop :=
  o1 Tryd.prog (Instr.box 29 a1) w fun t3 w =>
  dr w.drew fun S1 =>
  mv a0 fun t6 =>
  tk Tryd.prog S1 (Instr.fieldAt 29 t3 0) fun t7 =>
  tk Tryd.prog S1 (Instr.loadAt 3 t7) fun t8 =>
  tk Tryd.prog S1 (Instr.fieldAt 29 t3 1) fun t10 =>
  tk Tryd.prog S1 (Instr.loadAt 3 t10) fun t11 =>
  tk Tryd.prog S1 (Instr.fieldAt 29 t3 2) fun t13 =>
  tk Tryd.prog S1 (Instr.loadAt 23 t13) fun t14 =>
  tk Tryd.prog S1 (Instr.fieldAt 29 t3 3) fun t16 =>
  tk Tryd.prog S1 (Instr.loadAt 27 t16) fun t17 =>
  tk Tryd.prog S1 (Builtin.len_ #[27] 3 #[t17]) fun t18 =>
  tk Tryd.prog S1 (convert 3 107 t18) fun t19 =>
  C Tryd.prog N.pack_Writer_Int #[t6, t8] w.drew fun t9 w =>
  S1 w ∧
  C Tryd.prog N.pack_Writer_Int #[t9, t11] w fun t12 w =>
  S1 w ∧
  C Tryd.prog N.pack_Writer_Hash #[t12, t14] w fun t15 w =>
  S1 w ∧
  C Tryd.prog N.pack_Writer_Uint #[t15, t19] w fun t20 w =>
  o1 Tryd.prog (Instr.fieldAt 29 t3 3) w fun t21 w =>
  o1 Tryd.prog (Instr.loadAt 27 t21) w fun t22 w =>
  o1 Tryd.prog (Builtin.len_ #[27] 3 #[t22]) w fun t23 w =>
  mv (.int .i64 0) fun t24 =>
  lp [t24] w fun I1 μ1 => ∀ (x1 : Env) (w1 : World), I1 [x1 24] w1 →
  o1 Tryd.prog (bin .lss 3 (.tmp 24) (.tmp 23) (x1 24) t23) w1 fun t25 w =>
  br t25 (fun _ =>
  o1 Tryd.prog (Instr.indexAt 27 t22 (x1 24)) w fun t26 w =>
  o1 Tryd.prog (Instr.loadAt 35 t26) w fun t27 w =>
  o1 Tryd.prog (Instr.alloc 35 true (.tuple #[])) w fun t5 w =>
  o0 Tryd.prog (Instr.storeAt 35 t5 t27) w fun _ w =>
  mv a0 fun t28 =>
  o1 Tryd.prog (Instr.loadAt 35 t5) w fun t29 w =>
  C Tryd.prog N.types_putVote #[t28, t29] w fun t30 w =>
  o1 Tryd.prog (bin .add 3 (.tmp 24) (.const (.int .i64 1)) (x1 24) (.int .i64 1)) w fun t31 w =>
  mv t31 fun t24_1 =>
  I1 [t24_1] w ∧ μ1 [t24_1] w < μ1 [x1 24] w1) (fun _ =>
  k (.tuple #[]) w)
theorem C.types_putCommit {k : Value → World → Prop} {a0 a1 : Value} {w : World} (h : F.types_putCommit k a0 a1 w) : C Tryd.prog N.types_putCommit #[a0, a1] w k :=
  den_calls (H := { moves := [(1, (.take 0 (.take 1 (.take 2 (.take 4 (.take 5 (.take 7 (.take 8 (.take 10 (.take 11 (.take 12 (.take 13 (.force 3 (.force 6 (.force 9 (.last 14))))))))))))))))], vars := [24] }) (args := [a0, a1]) mixed Tryd.func60 (by kernel_rfl) (by kernel_rfl) (by kernel_rfl) h

-- (*isthmus/pack.Reader).Text
def F.pack_Reader_Text (k : Value → World → Prop) (a0 a1 : Value) (w : World) : Prop :=
  mv (.string ⟨#[]⟩) fun t4 =>
  mv a0 fun t5 =>
  mv a1 fun t6 =>
  C Tryd.prog N.pack_Reader_Bytes #[t5, t6] w fun t7 w =>
  o1 Tryd.prog (convert 33 9 t7) w fun t8 w =>
  mv t8 fun t4_1 =>
  k t4_1 w
theorem C.pack_Reader_Text {k : Value → World → Prop} {a0 a1 : Value} {w : World} (h : F.pack_Reader_Text k a0 a1 w) : C Tryd.prog N.pack_Reader_Text #[a0, a1] w k :=
  den_calls (H := { moves := [], vars := [4] }) (args := [a0, a1]) mixed Tryd.func61 (by kernel_rfl) (by kernel_rfl) (by kernel_rfl) h

-- (*isthmus/pack.Writer).Text
def F.pack_Writer_Text (k : Value → World → Prop) (a0 a1 : Value) (w : World) : Prop :=
  mv (.pointer none) fun t4 =>
  mv a0 fun t5 =>
  mv a1 fun t6 =>
  o1 Tryd.prog (convert 9 33 t6) w fun t7 w =>
  C Tryd.prog N.pack_Writer_Bytes #[t5, t7] w fun t8 w =>
  mv t8 fun t4_1 =>
  k t4_1 w
theorem C.pack_Writer_Text {k : Value → World → Prop} {a0 a1 : Value} {w : World} (h : F.pack_Writer_Text k a0 a1 w) : C Tryd.prog N.pack_Writer_Text #[a0, a1] w k :=
  den_calls (H := { moves := [], vars := [4] }) (args := [a0, a1]) mixed Tryd.func62 (by kernel_rfl) (by kernel_rfl) (by kernel_rfl) h

-- isthmus/keys.Check
-- isthmus/keys.Verify
-- isthmus/types.VoteBytes
-- slices.IndexFunc[[]isthmus/api.Vote,isthmus/api.Vote]
def F.slices_IndexFunc_api_Vote_api_Vote (k : Value → World → Prop) (a0 a1 : Value) (w : World) : Prop :=
  mv (.int .i64 0) fun t4 =>
  mv a0 fun t6 =>
  o1 Tryd.prog (Builtin.len_ #[27] 3 #[t6]) w fun t7 w =>
  mv (.int .i64 0) fun t8 =>
  lp [t4, undef, t8] w fun I1 μ1 => ∀ (x1 : Env) (w1 : World), I1 [x1 4, x1 5, x1 8] w1 →
  o1 Tryd.prog (bin .lss 3 (.tmp 8) (.tmp 7) (x1 8) t7) w1 fun t9 w =>
  br t9 (fun _ =>
  mv (x1 8) fun t10 =>
  mv t10 fun t5 =>
  mv a1 fun t11 =>
  mv a0 fun t12 =>
  mv t5 fun t13 =>
  o1 Tryd.prog (Instr.indexAt 27 t12 t13) w fun t14 w =>
  o1 Tryd.prog (Instr.loadAt 35 t14) w fun t15 w =>
  cv Tryd.prog t11 #[t15] w fun t16 w =>
  br t16 (fun _ =>
  mv t5 fun t17 =>
  mv t17 fun t4_1 =>
  k t4_1 w) (fun _ =>
  o1 Tryd.prog (bin .add 3 (.tmp 8) (.const (.int .i64 1)) (x1 8) (.int .i64 1)) w fun t18 w =>
  mv t18 fun t8_1 =>
  I1 [(x1 4), t5, t8_1] w ∧ μ1 [(x1 4), t5, t8_1] w < μ1 [x1 4, x1 5, x1 8] w1)) (fun _ =>
  mv (.int .i64 (-1)) fun t4_2 =>
  k t4_2 w)
theorem C.slices_IndexFunc_api_Vote_api_Vote {k : Value → World → Prop} {a0 a1 : Value} {w : World} (h : F.slices_IndexFunc_api_Vote_api_Vote k a0 a1 w) : C Tryd.prog N.slices_IndexFunc_api_Vote_api_Vote #[a0, a1] w k :=
  den_calls (H := { moves := [], vars := [4, 5, 8] }) (args := [a0, a1]) mixed Tryd.func66 (by kernel_rfl) (by kernel_rfl) (by kernel_rfl) h

-- slices.IndexFunc[[]isthmus/api.Validator,isthmus/api.Validator]
def F.slices_IndexFunc_api_Validator_api_Validator (k : Value → World → Prop) (a0 a1 : Value) (w : World) : Prop :=
  mv (.int .i64 0) fun t4 =>
  mv a0 fun t6 =>
  o1 Tryd.prog (Builtin.len_ #[51] 3 #[t6]) w fun t7 w =>
  mv (.int .i64 0) fun t8 =>
  lp [t4, undef, t8] w fun I1 μ1 => ∀ (x1 : Env) (w1 : World), I1 [x1 4, x1 5, x1 8] w1 →
  o1 Tryd.prog (bin .lss 3 (.tmp 8) (.tmp 7) (x1 8) t7) w1 fun t9 w =>
  br t9 (fun _ =>
  mv (x1 8) fun t10 =>
  mv t10 fun t5 =>
  mv a1 fun t11 =>
  mv a0 fun t12 =>
  mv t5 fun t13 =>
  o1 Tryd.prog (Instr.indexAt 51 t12 t13) w fun t14 w =>
  o1 Tryd.prog (Instr.loadAt 59 t14) w fun t15 w =>
  cv Tryd.prog t11 #[t15] w fun t16 w =>
  br t16 (fun _ =>
  mv t5 fun t17 =>
  mv t17 fun t4_1 =>
  k t4_1 w) (fun _ =>
  o1 Tryd.prog (bin .add 3 (.tmp 8) (.const (.int .i64 1)) (x1 8) (.int .i64 1)) w fun t18 w =>
  mv t18 fun t8_1 =>
  I1 [(x1 4), t5, t8_1] w ∧ μ1 [(x1 4), t5, t8_1] w < μ1 [x1 4, x1 5, x1 8] w1)) (fun _ =>
  mv (.int .i64 (-1)) fun t4_2 =>
  k t4_2 w)
theorem C.slices_IndexFunc_api_Validator_api_Validator {k : Value → World → Prop} {a0 a1 : Value} {w : World} (h : F.slices_IndexFunc_api_Validator_api_Validator k a0 a1 w) : C Tryd.prog N.slices_IndexFunc_api_Validator_api_Validator #[a0, a1] w k :=
  den_calls (H := { moves := [], vars := [4, 5, 8] }) (args := [a0, a1]) mixed Tryd.func67 (by kernel_rfl) (by kernel_rfl) (by kernel_rfl) h

-- slices.ContainsFunc[[]byte,byte]
def F.slices_ContainsFunc_bytes (k : Value → World → Prop) (a0 a1 : Value) (w : World) : Prop :=
  mv (.bool false) fun t4 =>
  mv a0 fun t5 =>
  mv a1 fun t6 =>
  C Tryd.prog N.slices_IndexFunc_bytes #[t5, t6] w fun t7 w =>
  o1 Tryd.prog (bin .geq 3 (.tmp 7) (.const (.int .i64 0)) t7 (.int .i64 0)) w fun t8 w =>
  mv t8 fun t4_1 =>
  k t4_1 w
theorem C.slices_ContainsFunc_bytes {k : Value → World → Prop} {a0 a1 : Value} {w : World} (h : F.slices_ContainsFunc_bytes k a0 a1 w) : C Tryd.prog N.slices_ContainsFunc_bytes #[a0, a1] w k :=
  den_calls (H := { moves := [], vars := [4] }) (args := [a0, a1]) mixed Tryd.func68 (by kernel_rfl) (by kernel_rfl) (by kernel_rfl) h

-- isthmus/types.named$1
def F.types_named_1 (k : Value → World → Prop) (a0 : Value) (w : World) : Prop :=
  mv (.bool false) fun t2 =>
  mv a0 fun t3 =>
  o1 Tryd.prog (bin .lss 5 (.tmp 3) (.const (.int .u8 33)) t3 (.int .u8 33)) w fun t4 w =>
  mv t4 fun t5 =>
  gd t5 false (fun k1 => mv a0 fun v => k1 v w) w fun t6 w =>
  gd t5 false (fun k2 => o1 Tryd.prog (bin .gtr 5 (.tmp 6) (.const (.int .u8 126)) t6 (.int .u8 126)) w k2) w fun t7 w =>
  pk t5 (.bool true) t7 fun t8 =>
  mv t8 fun t2_1 =>
  k t2_1 w
theorem C.types_named_1 {k : Value → World → Prop} {a0 : Value} {w : World} (h : F.types_named_1 k a0 w) : C Tryd.prog N.types_named_1 #[a0] w k :=
  den_calls (H := { moves := [], vars := [2] }) (args := [a0]) mixed Tryd.func69 (by kernel_rfl) (by kernel_rfl) (by kernel_rfl) h

-- errors.as
def F.errors_as (k : Value → World → Prop) (a0 a1 a2 a3 : Value) (w : World) : Prop :=
  o1 Tryd.prog (Instr.box 124 a2) w fun t6 w =>
  mv (.bool false) fun t8 =>
  lp [a0, t8, undef, undef, undef, undef, undef, undef, undef] w fun I1 μ1 => ∀ (x1 : Env) (w1 : World), I1 [x1 0, x1 8, x1 9, x1 10, x1 11, x1 12, x1 14, x1 15, x1 50] w1 →
  mv (x1 0) fun t16 =>
  oN Tryd.prog (callFunc N.internal_reflectlite_TypeOf #[t16]) w1 fun t17 w =>
  mv a3 fun t18 =>
  iv Tryd.prog t17 "AssignableTo" #[t18] w fun t19 w =>
  br t19 (fun _ =>
  o1 Tryd.prog (Instr.loadAt 124 t6) w fun t20 w =>
  oN Tryd.prog (callFunc N.internal_reflectlite_Value_Elem #[t20]) w fun t21 w =>
  mv (x1 0) fun t22 =>
  oN Tryd.prog (callFunc N.internal_reflectlite_ValueOf #[t22]) w fun t23 w =>
  oN Tryd.prog (callFunc N.internal_reflectlite_Value_Set #[t21, t23]) w fun t24 w =>
  mv (.bool true) fun t8_1 =>
  k t8_1 w) (fun _ =>
  mv (x1 0) fun t26 =>
  o1 Tryd.prog (Instr.typeAssert t26 37 161 true) w fun t27 w =>
  mv t27 fun t25 =>
  o1 Tryd.prog (Instr.extract t25 0) w fun t28 w =>
  o1 Tryd.prog (Instr.extract t25 1) w fun t29 w =>
  mv t28 fun t9 =>
  mv t29 fun t10 =>
  mv t10 fun t30 =>
  mv t30 fun t31 =>
  gd t31 true (fun k1 => mv t9 fun v => k1 v w) w fun t32 w =>
  gd t31 true (fun k2 => mv a1 fun v => k2 v w) w fun t33 w =>
  gd t31 true (fun k3 => iv Tryd.prog t32 "As" #[t33] w k3) w fun t34 w =>
  pk t31 t34 (.bool false) fun t35 =>
  br t35 (fun _ =>
  mv (.bool true) fun t8_2 =>
  k t8_2 w) (fun _ =>
  mv (x1 0) fun t36 =>
  o1 Tryd.prog (Instr.typeAssert t36 37 164 true) w fun t37 w =>
  o1 Tryd.prog (Instr.extract t37 1) w fun t38 w =>
  o1 Tryd.prog (Instr.extract t37 0) w fun t39 w =>
  br t38 (fun _ =>
  mv t39 fun t11 =>
  mv t11 fun t40 =>
  iv Tryd.prog t40 "Unwrap" #[] w fun t41 w =>
  mv t41 fun t0 =>
  mv t0 fun t42 =>
  o1 Tryd.prog (bin .eql 37 (.tmp 42) (.const .nilIface) t42 .nilIface) w fun t43 w =>
  br t43 (fun _ =>
  mv (.bool false) fun t8_3 =>
  k t8_3 w) (fun _ =>
  I1 [t0, (x1 8), t9, t10, t11, (x1 12), (x1 14), (x1 15), (x1 50)] w ∧ μ1 [t0, (x1 8), t9, t10, t11, (x1 12), (x1 14), (x1 15), (x1 50)] w < μ1 [x1 0, x1 8, x1 9, x1 10, x1 11, x1 12, x1 14, x1 15, x1 50] w1)) (fun _ =>
  o1 Tryd.prog (Instr.typeAssert t36 37 165 true) w fun t44 w =>
  o1 Tryd.prog (Instr.extract t44 1) w fun t45 w =>
  o1 Tryd.prog (Instr.extract t44 0) w fun t46 w =>
  br t45 (fun _ =>
  mv t46 fun t12 =>
  mv t12 fun t47 =>
  iv Tryd.prog t47 "Unwrap" #[] w fun t48 w =>
  o1 Tryd.prog (Builtin.len_ #[166] 3 #[t48]) w fun t49 w =>
  mv (.int .i64 0) fun t50 =>
  lp [(x1 8), (x1 14), t50] w fun I2 μ2 => ∀ (x2 : Env) (w2 : World), I2 [x2 8, x2 14, x2 50] w2 →
  o1 Tryd.prog (bin .lss 3 (.tmp 50) (.tmp 49) (x2 50) t49) w2 fun t51 w =>
  br t51 (fun _ =>
  jn (fun x3 => [x3 8, x3 14]) (fun k4 =>
  o1 Tryd.prog (Instr.indexAt 166 t48 (x2 50)) w fun t52 w =>
  o1 Tryd.prog (Instr.loadAt 37 t52) w fun t53 w =>
  mv t53 fun t14 =>
  mv t14 fun t54 =>
  o1 Tryd.prog (bin .eql 37 (.tmp 54) (.const .nilIface) t54 .nilIface) w fun t55 w =>
  br t55 (fun _ =>
  k4 [(x2 8), t14] w) (fun _ =>
  mv t14 fun t56 =>
  mv a1 fun t57 =>
  o1 Tryd.prog (Instr.loadAt 124 t6) w fun t58 w =>
  mv a3 fun t59 =>
  C Tryd.prog N.errors_as #[t56, t57, t58, t59] w fun t60 w =>
  br t60 (fun _ =>
  mv (.bool true) fun t8_4 =>
  k t8_4 w) (fun _ =>
  k4 [(x2 8), t14] w))) fun x3 w =>
  o1 Tryd.prog (bin .add 3 (.tmp 50) (.const (.int .i64 1)) (x2 50) (.int .i64 1)) w fun t61 w =>
  mv t61 fun t50_1 =>
  I2 [(x3 8), (x3 14), t50_1] w ∧ μ2 [(x3 8), (x3 14), t50_1] w < μ2 [x2 8, x2 14, x2 50] w2) (fun _ =>
  mv (.bool false) fun t8_5 =>
  k t8_5 w)) (fun _ =>
  mv t36 fun t15 =>
  mv (.bool false) fun t8_6 =>
  k t8_6 w))))
theorem C.errors_as {k : Value → World → Prop} {a0 a1 a2 a3 : Value} {w : World} (h : F.errors_as k a0 a1 a2 a3 w) : C Tryd.prog N.errors_as #[a0, a1, a2, a3] w k :=
  den_calls (H := { moves := [], vars := [0, 8, 9, 10, 11, 12, 14, 15, 50] }) (args := [a0, a1, a2, a3]) mixed Tryd.func73 (by kernel_rfl) (by kernel_rfl) (by kernel_rfl) h

-- (*isthmus/pack.Reader).live
def F.pack_Reader_live (k : Value → World → Prop) (a0 : Value) (w : World) : Prop :=
  mv (.bool false) fun t2 =>
  mv a0 fun t3 =>
  o1 Tryd.prog (bin .neq 89 (.tmp 3) (.const (.pointer none)) t3 (.pointer none)) w fun t4 w =>
  mv t4 fun t5 =>
  gd t5 true (fun k1 => mv a0 fun v => k1 v w) w fun t6 w =>
  gd t5 true (fun k2 => nilOk t6 = true ∧ mv t6 fun v => k2 v w) w fun t7 w =>
  gd t5 true (fun k3 => o1 Tryd.prog (Instr.fieldAt 134 t7 1) w k3) w fun t8 w =>
  gd t5 true (fun k4 => o1 Tryd.prog (Instr.loadAt 37 t8) w k4) w fun t9 w =>
  gd t5 true (fun k5 => o1 Tryd.prog (bin .eql 37 (.tmp 9) (.const .nilIface) t9 .nilIface) w k5) w fun t10 w =>
  pk t5 t10 (.bool false) fun t11 =>
  mv t11 fun t2_1 =>
  k t2_1 w
theorem C.pack_Reader_live {k : Value → World → Prop} {a0 : Value} {w : World} (h : F.pack_Reader_live k a0 w) : C Tryd.prog N.pack_Reader_live #[a0] w k :=
  den_calls (H := { moves := [], vars := [2] }) (args := [a0]) mixed Tryd.func74 (by kernel_rfl) (by kernel_rfl) (by kernel_rfl) h

-- (*isthmus/pack.Reader).Err
def F.pack_Reader_Err (k : Value → World → Prop) (a0 : Value) (w : World) : Prop :=
  mv .nilIface fun t2 =>
  mv a0 fun t3 =>
  o1 Tryd.prog (bin .eql 89 (.tmp 3) (.const (.pointer none)) t3 (.pointer none)) w fun t4 w =>
  br t4 (fun _ =>
  o1 Tryd.prog (Instr.makeInterface 80 (.int .i64 1)) w fun t5 w =>
  mv t5 fun t2_1 =>
  k t2_1 w) (fun _ =>
  mv a0 fun t6 =>
  nilOk t6 = true ∧ mv t6 fun t7 =>
  o1 Tryd.prog (Instr.fieldAt 134 t7 1) w fun t8 w =>
  o1 Tryd.prog (Instr.loadAt 37 t8) w fun t9 w =>
  mv t9 fun t2_2 =>
  k t2_2 w)
theorem C.pack_Reader_Err {k : Value → World → Prop} {a0 : Value} {w : World} (h : F.pack_Reader_Err k a0 w) : C Tryd.prog N.pack_Reader_Err #[a0] w k :=
  den_calls (H := { moves := [], vars := [2] }) (args := [a0]) mixed Tryd.func75 (by kernel_rfl) (by kernel_rfl) (by kernel_rfl) h

-- (*isthmus/pack.Reader).Uint
def F.pack_Reader_Uint (k : Value → World → Prop) (a0 a1 : Value) (w : World) : Prop :=
  mv (.int .u64 0) fun t4 =>
  mv a0 fun t8 =>
  C Tryd.prog N.pack_Reader_live #[t8] w fun t9 w =>
  o1 Tryd.prog (Op.unary .not t9) w fun t10 w =>
  br t10 (fun _ =>
  mv (.int .u64 0) fun t4_1 =>
  k t4_1 w) (fun _ =>
  mv a0 fun t12 =>
  nilOk t12 = true ∧ mv t12 fun t13 =>
  o1 Tryd.prog (Instr.fieldAt 134 t13 0) w fun t14 w =>
  o1 Tryd.prog (Instr.loadAt 33 t14) w fun t15 w =>
  C Tryd.prog N.pack_number #[t15] w fun t16 w =>
  mv t16 fun t11 =>
  o1 Tryd.prog (Instr.extract t11 0) w fun t17 w =>
  o1 Tryd.prog (Instr.extract t11 1) w fun t18 w =>
  o1 Tryd.prog (Instr.extract t11 2) w fun t19 w =>
  mv t17 fun t5 =>
  mv t18 fun t6 =>
  mv t19 fun t7 =>
  mv t7 fun t21 =>
  o1 Tryd.prog (bin .neq 80 (.tmp 21) (.const (.int .i64 0)) t21 (.int .i64 0)) w fun t22 w =>
  mv t22 fun t20 =>
  br t20 (fun _ =>
  mv a0 fun t23 =>
  mv t7 fun t24 =>
  C Tryd.prog N.pack_Reader_fail #[t23, .string ⟨#[110, 117, 109, 98, 101, 114]⟩, t24] w fun t25 w =>
  mv (.int .u64 0) fun t4_2 =>
  k t4_2 w) (fun _ =>
  mv t5 fun t27 =>
  mv a1 fun t28 =>
  o1 Tryd.prog (bin .gtr 107 (.tmp 27) (.tmp 28) t27 t28) w fun t29 w =>
  mv t29 fun t26 =>
  br t26 (fun _ =>
  mv a0 fun t30 =>
  C Tryd.prog N.pack_Reader_fail #[t30, .string ⟨#[110, 117, 109, 98, 101, 114]⟩, .int .i64 4] w fun t31 w =>
  mv (.int .u64 0) fun t4_3 =>
  k t4_3 w) (fun _ =>
  mv a0 fun t32 =>
  mv a0 fun t33 =>
  nilOk t33 = true ∧ mv t33 fun t34 =>
  o1 Tryd.prog (Instr.fieldAt 134 t34 0) w fun t35 w =>
  o1 Tryd.prog (Instr.loadAt 33 t35) w fun t36 w =>
  mv t6 fun t37 =>
  o1 Tryd.prog (Instr.sliceAt 33 t36 (some t37) none none) w fun t38 w =>
  nilOk t32 = true ∧ mv t32 fun t39 =>
  o1 Tryd.prog (Instr.fieldAt 134 t39 0) w fun t40 w =>
  o0 Tryd.prog (Instr.storeAt 33 t40 t38) w fun _ w =>
  mv t5 fun t41 =>
  mv t41 fun t4_4 =>
  k t4_4 w)))
theorem C.pack_Reader_Uint {k : Value → World → Prop} {a0 a1 : Value} {w : World} (h : F.pack_Reader_Uint k a0 a1 w) : C Tryd.prog N.pack_Reader_Uint #[a0, a1] w k :=
  den_calls (H := { moves := [], vars := [4, 5, 6, 7, 20, 26] }) (args := [a0, a1]) mixed Tryd.func76 (by kernel_rfl) (by kernel_rfl) (by kernel_rfl) h

-- (*isthmus/pack.Reader).take
def F.pack_Reader_take (k : Value → World → Prop) (a0 a1 a2 : Value) (w : World) : Prop :=
  mv (.slice none 0 0) fun t6 =>
  mv a0 fun t8 =>
  C Tryd.prog N.pack_Reader_live #[t8] w fun t9 w =>
  o1 Tryd.prog (Op.unary .not t9) w fun t10 w =>
  br t10 (fun _ =>
  mv (.slice none 0 0) fun t6_1 =>
  k t6_1 w) (fun _ =>
  mv a0 fun t11 =>
  nilOk t11 = true ∧ mv t11 fun t12 =>
  o1 Tryd.prog (Instr.fieldAt 134 t12 0) w fun t13 w =>
  o1 Tryd.prog (Instr.loadAt 33 t13) w fun t14 w =>
  o1 Tryd.prog (Builtin.len_ #[33] 3 #[t14]) w fun t15 w =>
  mv a2 fun t16 =>
  o1 Tryd.prog (bin .lss 3 (.tmp 15) (.tmp 16) t15 t16) w fun t17 w =>
  br t17 (fun _ =>
  mv a0 fun t18 =>
  mv a1 fun t19 =>
  C Tryd.prog N.pack_Reader_fail #[t18, t19, .int .i64 12] w fun t20 w =>
  mv (.slice none 0 0) fun t6_2 =>
  k t6_2 w) (fun _ =>
  mv a0 fun t21 =>
  nilOk t21 = true ∧ mv t21 fun t22 =>
  o1 Tryd.prog (Instr.fieldAt 134 t22 0) w fun t23 w =>
  o1 Tryd.prog (Instr.loadAt 33 t23) w fun t24 w =>
  mv a2 fun t25 =>
  o1 Tryd.prog (Instr.sliceAt 33 t24 none (some t25) none) w fun t26 w =>
  ob Tryd.prog (fun _ => Builtin.append_ #[33, 33] 33 #[.slice none 0 0, t26]) w fun t27 w =>
  mv t27 fun t7 =>
  mv a0 fun t28 =>
  mv a0 fun t29 =>
  nilOk t29 = true ∧ mv t29 fun t30 =>
  o1 Tryd.prog (Instr.fieldAt 134 t30 0) w fun t31 w =>
  o1 Tryd.prog (Instr.loadAt 33 t31) w fun t32 w =>
  mv a2 fun t33 =>
  o1 Tryd.prog (Instr.sliceAt 33 t32 (some t33) none none) w fun t34 w =>
  nilOk t28 = true ∧ mv t28 fun t35 =>
  o1 Tryd.prog (Instr.fieldAt 134 t35 0) w fun t36 w =>
  o0 Tryd.prog (Instr.storeAt 33 t36 t34) w fun _ w =>
  mv t7 fun t37 =>
  mv t37 fun t6_3 =>
  k t6_3 w))
theorem C.pack_Reader_take {k : Value → World → Prop} {a0 a1 a2 : Value} {w : World} (h : F.pack_Reader_take k a0 a1 a2 w) : C Tryd.prog N.pack_Reader_take #[a0, a1, a2] w k :=
  den_calls (H := { moves := [], vars := [6, 7] }) (args := [a0, a1, a2]) mixed Tryd.func77 (by kernel_rfl) (by kernel_rfl) (by kernel_rfl) h

-- (*isthmus/pack.Reader).fail
def F.pack_Reader_fail (k : Value → World → Prop) (a0 a1 a2 : Value) (w : World) : Prop :=
  mv a0 fun t6 =>
  o1 Tryd.prog (bin .neq 89 (.tmp 6) (.const (.pointer none)) t6 (.pointer none)) w fun t7 w =>
  mv t7 fun t8 =>
  gd t8 true (fun k1 => mv a0 fun v => k1 v w) w fun t9 w =>
  gd t8 true (fun k2 => nilOk t9 = true ∧ mv t9 fun v => k2 v w) w fun t10 w =>
  gd t8 true (fun k3 => o1 Tryd.prog (Instr.fieldAt 134 t10 1) w k3) w fun t11 w =>
  gd t8 true (fun k4 => o1 Tryd.prog (Instr.loadAt 37 t11) w k4) w fun t12 w =>
  gd t8 true (fun k5 => o1 Tryd.prog (bin .eql 37 (.tmp 12) (.const .nilIface) t12 .nilIface) w k5) w fun t13 w =>
  pk t8 t13 (.bool false) fun t14 =>
  jn (fun x1 => []) (fun k6 =>
  br t14 (fun _ =>
  mv a0 fun t15 =>
  mv a1 fun t16 =>
  mv a2 fun t17 =>
  o1 Tryd.prog (Instr.makeInterface 80 t17) w fun t18 w =>
  o1 Tryd.prog (Instr.build 113 #[(0, t16), (1, t18)]) w fun t19 w =>
  o1 Tryd.prog (Instr.box 113 t19) w fun t20 w =>
  o1 Tryd.prog (Instr.makeInterface 111 t20) w fun t21 w =>
  nilOk t15 = true ∧ mv t15 fun t22 =>
  o1 Tryd.prog (Instr.fieldAt 134 t22 1) w fun t23 w =>
  o0 Tryd.prog (Instr.storeAt 37 t23 t21) w fun _ w =>
  k6 [] w) (fun _ =>
  k6 [] w)) fun x1 w =>
  k (.tuple #[]) w
theorem C.pack_Reader_fail {k : Value → World → Prop} {a0 a1 a2 : Value} {w : World} (h : F.pack_Reader_fail k a0 a1 a2 w) : C Tryd.prog N.pack_Reader_fail #[a0, a1, a2] w k :=
  den_calls (H := { moves := [], vars := [] }) (args := [a0, a1, a2]) mixed Tryd.func78 (by kernel_rfl) (by kernel_rfl) (by kernel_rfl) h

-- (*isthmus/pack.Writer).raw
def F.pack_Writer_raw (k : Value → World → Prop) (a0 a1 : Value) (w : World) : Prop :=
  mv (.pointer none) fun t4 =>
  mv a0 fun t5 =>
  o1 Tryd.prog (bin .neq 95 (.tmp 5) (.const (.pointer none)) t5 (.pointer none)) w fun t6 w =>
  jn (fun x1 => []) (fun k1 =>
  br t6 (fun _ =>
  mv a0 fun t7 =>
  mv a0 fun t8 =>
  nilOk t8 = true ∧ mv t8 fun t9 =>
  o1 Tryd.prog (Instr.fieldAt 140 t9 0) w fun t10 w =>
  o1 Tryd.prog (Instr.loadAt 33 t10) w fun t11 w =>
  mv a1 fun t12 =>
  ob Tryd.prog (fun _ => Builtin.append_ #[33, 33] 33 #[t11, t12]) w fun t13 w =>
  nilOk t7 = true ∧ mv t7 fun t14 =>
  o1 Tryd.prog (Instr.fieldAt 140 t14 0) w fun t15 w =>
  o0 Tryd.prog (Instr.storeAt 33 t15 t13) w fun _ w =>
  k1 [] w) (fun _ =>
  k1 [] w)) fun x1 w =>
  mv a0 fun t16 =>
  mv t16 fun t4_1 =>
  k t4_1 w
theorem C.pack_Writer_raw {k : Value → World → Prop} {a0 a1 : Value} {w : World} (h : F.pack_Writer_raw k a0 a1 w) : C Tryd.prog N.pack_Writer_raw #[a0, a1] w k :=
  den_calls (H := { moves := [], vars := [4] }) (args := [a0, a1]) mixed Tryd.func79 (by kernel_rfl) (by kernel_rfl) (by kernel_rfl) h

-- isthmus/isthmusref02.Uint
def F.isthmusref02_Uint (k : Value → World → Prop) (a0 a1 : Value) (w : World) : Prop :=
  mv (.slice none 0 0) fun t4 =>
  mv (.slice none 0 0) fun t5 =>
  mv t5 fun t6 =>
  mv a0 fun t7 =>
  ob Tryd.prog (fun _ => Builtin.append_ #[33, 33] 33 #[t6, t7]) w fun t8 w =>
  mv t8 fun t5_1 =>
  lp [a1, t5_1] w fun I1 μ1 => ∀ (x1 : Env) (w1 : World), I1 [x1 1, x1 5] w1 →
  mv (x1 1) fun t9 =>
  o1 Tryd.prog (bin .gtr 107 (.tmp 9) (.const (.int .u64 127)) t9 (.int .u64 127)) w1 fun t10 w =>
  br t10 (fun _ =>
  mv (x1 5) fun t11 =>
  mv (x1 1) fun t12 =>
  o1 Tryd.prog (bin .rem 107 (.tmp 12) (.const (.int .u64 128)) t12 (.int .u64 128)) w fun t13 w =>
  o1 Tryd.prog (convert 107 5 t13) w fun t14 w =>
  o1 Tryd.prog (bin .add 5 (.tmp 14) (.const (.int .u8 128)) t14 (.int .u8 128)) w fun t15 w =>
  o1 Tryd.prog (Instr.buildSlice 33 1 #[(0, t15)]) w fun t16 w =>
  ob Tryd.prog (fun _ => Builtin.append_ #[33, 33] 33 #[t11, t16]) w fun t17 w =>
  mv t17 fun t5_2 =>
  mv (x1 1) fun t18 =>
  o1 Tryd.prog (bin .quo 107 (.tmp 18) (.const (.int .u64 128)) t18 (.int .u64 128)) w fun t19 w =>
  mv t19 fun t1 =>
  I1 [t1, t5_2] w ∧ μ1 [t1, t5_2] w < μ1 [x1 1, x1 5] w1) (fun _ =>
  mv (x1 5) fun t20 =>
  mv (x1 1) fun t21 =>
  o1 Tryd.prog (convert 107 5 t21) w fun t22 w =>
  o1 Tryd.prog (Instr.buildSlice 33 1 #[(0, t22)]) w fun t23 w =>
  ob Tryd.prog (fun _ => Builtin.append_ #[33, 33] 33 #[t20, t23]) w fun t24 w =>
  mv t24 fun t4_1 =>
  k t4_1 w)
theorem C.isthmusref02_Uint {k : Value → World → Prop} {a0 a1 : Value} {w : World} (h : F.isthmusref02_Uint k a0 a1 w) : C Tryd.prog N.isthmusref02_Uint #[a0, a1] w k :=
  den_calls (H := { moves := [], vars := [1, 4, 5] }) (args := [a0, a1]) mixed Tryd.func80 (by kernel_rfl) (by kernel_rfl) (by kernel_rfl) h

-- isthmus/keys.fault
-- isthmus/keys.read
-- isthmus/wots.Digest
-- isthmus/wots.From
-- isthmus/sha.Fold
-- slices.IndexFunc[[]byte,byte]
def F.slices_IndexFunc_bytes (k : Value → World → Prop) (a0 a1 : Value) (w : World) : Prop :=
  mv (.int .i64 0) fun t4 =>
  mv a0 fun t6 =>
  o1 Tryd.prog (Builtin.len_ #[33] 3 #[t6]) w fun t7 w =>
  mv (.int .i64 0) fun t8 =>
  lp [t4, undef, t8] w fun I1 μ1 => ∀ (x1 : Env) (w1 : World), I1 [x1 4, x1 5, x1 8] w1 →
  o1 Tryd.prog (bin .lss 3 (.tmp 8) (.tmp 7) (x1 8) t7) w1 fun t9 w =>
  br t9 (fun _ =>
  mv (x1 8) fun t10 =>
  mv t10 fun t5 =>
  mv a1 fun t11 =>
  mv a0 fun t12 =>
  mv t5 fun t13 =>
  o1 Tryd.prog (Instr.indexAt 33 t12 t13) w fun t14 w =>
  o1 Tryd.prog (Instr.loadAt 5 t14) w fun t15 w =>
  cv Tryd.prog t11 #[t15] w fun t16 w =>
  br t16 (fun _ =>
  mv t5 fun t17 =>
  mv t17 fun t4_1 =>
  k t4_1 w) (fun _ =>
  o1 Tryd.prog (bin .add 3 (.tmp 8) (.const (.int .i64 1)) (x1 8) (.int .i64 1)) w fun t18 w =>
  mv t18 fun t8_1 =>
  I1 [(x1 4), t5, t8_1] w ∧ μ1 [(x1 4), t5, t8_1] w < μ1 [x1 4, x1 5, x1 8] w1)) (fun _ =>
  mv (.int .i64 (-1)) fun t4_2 =>
  k t4_2 w)
theorem C.slices_IndexFunc_bytes {k : Value → World → Prop} {a0 a1 : Value} {w : World} (h : F.slices_IndexFunc_bytes k a0 a1 w) : C Tryd.prog N.slices_IndexFunc_bytes #[a0, a1] w k :=
  den_calls (H := { moves := [], vars := [4, 5, 8] }) (args := [a0, a1]) mixed Tryd.func86 (by kernel_rfl) (by kernel_rfl) (by kernel_rfl) h

-- isthmus/pack.number
def F.pack_number (k : Value → World → Prop) (a0 : Value) (w : World) : Prop :=
  mv (.int .u64 0) fun t2 =>
  mv (.int .i64 0) fun t3 =>
  mv (.int .i64 0) fun t4 =>
  mv (.int .u64 0) fun t5 =>
  mv (.int .i64 0) fun t8 =>
  jn (fun x1 => [x1 2, x1 3, x1 4, x1 5, x1 6, x1 7, x1 8]) (fun k1 =>
  lp [t2, t3, t4, t5, undef, undef, t8] w fun I2 μ2 => ∀ (x2 : Env) (w1 : World), I2 [x2 2, x2 3, x2 4, x2 5, x2 6, x2 7, x2 8] w1 →
  o1 Tryd.prog (bin .lss 3 (.tmp 8) (.const (.int .i64 10)) (x2 8) (.int .i64 10)) w1 fun t9 w =>
  br t9 (fun _ =>
  mv (x2 8) fun t10 =>
  mv t10 fun t6 =>
  mv t6 fun t11 =>
  mv a0 fun t12 =>
  o1 Tryd.prog (Builtin.len_ #[33] 3 #[t12]) w fun t13 w =>
  o1 Tryd.prog (bin .eql 3 (.tmp 11) (.tmp 13) t11 t13) w fun t14 w =>
  br t14 (fun _ =>
  mv (.int .u64 0) fun t2_1 =>
  mv (.int .i64 0) fun t3_1 =>
  mv (.int .i64 12) fun t4_1 =>
  k (.tuple #[t2_1, t3_1, t4_1]) w) (fun _ =>
  mv a0 fun t15 =>
  mv t6 fun t16 =>
  o1 Tryd.prog (Instr.indexAt 33 t15 t16) w fun t17 w =>
  o1 Tryd.prog (Instr.loadAt 5 t17) w fun t18 w =>
  mv t18 fun t7 =>
  mv t6 fun t19 =>
  o1 Tryd.prog (bin .eql 3 (.tmp 19) (.const (.int .i64 9)) t19 (.int .i64 9)) w fun t20 w =>
  mv t20 fun t21 =>
  gd t21 true (fun k2 => mv t7 fun v => k2 v w) w fun t22 w =>
  gd t21 true (fun k3 => o1 Tryd.prog (bin .gtr 5 (.tmp 22) (.const (.int .u8 1)) t22 (.int .u8 1)) w k3) w fun t23 w =>
  pk t21 t23 (.bool false) fun t24 =>
  br t24 (fun _ =>
  k1 [(x2 2), (x2 3), (x2 4), (x2 5), t6, t7, (x2 8)] w) (fun _ =>
  mv (x2 5) fun t25 =>
  mv t7 fun t26 =>
  o1 Tryd.prog (bin .andNot 5 (.tmp 26) (.const (.int .u8 128)) t26 (.int .u8 128)) w fun t27 w =>
  o1 Tryd.prog (convert 5 107 t27) w fun t28 w =>
  mv t6 fun t29 =>
  o1 Tryd.prog (bin .mul 3 (.const (.int .i64 7)) (.tmp 29) (.int .i64 7) t29) w fun t30 w =>
  o1 Tryd.prog (convert 3 136 t30) w fun t31 w =>
  o1 Tryd.prog (bin .shl 107 (.tmp 28) (.tmp 31) t28 t31) w fun t32 w =>
  o1 Tryd.prog (bin .or 107 (.tmp 25) (.tmp 32) t25 t32) w fun t33 w =>
  mv t33 fun t5_1 =>
  mv t7 fun t34 =>
  o1 Tryd.prog (bin .lss 5 (.tmp 34) (.const (.int .u8 128)) t34 (.int .u8 128)) w fun t35 w =>
  br t35 (fun _ =>
  mv t7 fun t36 =>
  o1 Tryd.prog (bin .eql 5 (.tmp 36) (.const (.int .u8 0)) t36 (.int .u8 0)) w fun t37 w =>
  mv t37 fun t38 =>
  gd t38 true (fun k4 => mv t6 fun v => k4 v w) w fun t39 w =>
  gd t38 true (fun k5 => o1 Tryd.prog (bin .gtr 3 (.tmp 39) (.const (.int .i64 0)) t39 (.int .i64 0)) w k5) w fun t40 w =>
  pk t38 t40 (.bool false) fun t41 =>
  br t41 (fun _ =>
  k1 [(x2 2), (x2 3), (x2 4), t5_1, t6, t7, (x2 8)] w) (fun _ =>
  mv t5_1 fun t42 =>
  mv t6 fun t43 =>
  o1 Tryd.prog (bin .add 3 (.tmp 43) (.const (.int .i64 1)) t43 (.int .i64 1)) w fun t44 w =>
  mv t42 fun t2_2 =>
  mv t44 fun t3_2 =>
  mv (.int .i64 0) fun t4_2 =>
  k (.tuple #[t2_2, t3_2, t4_2]) w)) (fun _ =>
  o1 Tryd.prog (bin .add 3 (.tmp 8) (.const (.int .i64 1)) (x2 8) (.int .i64 1)) w fun t45 w =>
  mv t45 fun t8_1 =>
  I2 [(x2 2), (x2 3), (x2 4), t5_1, t6, t7, t8_1] w ∧ μ2 [(x2 2), (x2 3), (x2 4), t5_1, t6, t7, t8_1] w < μ2 [x2 2, x2 3, x2 4, x2 5, x2 6, x2 7, x2 8] w1)))) (fun _ =>
  k1 [(x2 2), (x2 3), (x2 4), (x2 5), (x2 6), (x2 7), (x2 8)] w)) fun x1 w =>
  mv (.int .u64 0) fun t2_3 =>
  mv (.int .i64 0) fun t3_3 =>
  mv (.int .i64 3) fun t4_3 =>
  k (.tuple #[t2_3, t3_3, t4_3]) w
theorem C.pack_number {k : Value → World → Prop} {a0 : Value} {w : World} (h : F.pack_number k a0 w) : C Tryd.prog N.pack_number #[a0] w k :=
  den_calls (H := { moves := [], vars := [2, 3, 4, 5, 6, 7, 8] }) (args := [a0]) mixed Tryd.func90 (by kernel_rfl) (by kernel_rfl) (by kernel_rfl) h

end Go.Proofs.YtlfelmikcdmkhaaDoor
