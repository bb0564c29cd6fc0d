/- What each function asks: printed by hoas.py off the loaded program; each is held against the program by the kernel. -/
import Derived.Test.YtlfelmikcdmkhaaGreatDoorN
set_option linter.unusedVariables false
set_option linter.unusedSimpArgs false
set_option linter.unusedSectionVars false
namespace Go.Proofs.YtlfelmikcdmkhaaGreatDoor
open Go Go.Isk
set_option maxRecDepth 100000
-- isthmus/types.Total
def F.types_Total (k : Value → World → Prop) (a0 : Value) (w : World) : Prop :=
  mv (.int .i64 0) fun t2 =>
  mv (.int .i64 0) fun t3 =>
  mv a0 fun t6 =>
  o1 Tryz.prog (Builtin.len_ #[70] 3 #[t6]) w fun t7 w =>
  mv (.int .i64 0) fun t8 =>
  lp [t3, t8] w fun I1 μ1 => ∀ (x1 : Env) (w1 : World), I1 [x1 3, x1 8] w1 →
  o1 Tryz.prog (bin .lss 3 (.tmp 8) (.tmp 7) (x1 8) t7) w1 fun t9 w =>
  br t9 (fun _ =>
  o1 Tryz.prog (Instr.indexAt 70 t6 (x1 8)) w fun t10 w =>
  o1 Tryz.prog (Instr.loadAt 76 t10) w fun t11 w =>
  o1 Tryz.prog (Instr.alloc 76 true (.tuple #[])) w fun t5 w =>
  o0 Tryz.prog (Instr.storeAt 76 t5 t11) w fun _ w =>
  mv (x1 3) fun t12 =>
  o1 Tryz.prog (Instr.fieldAt 76 t5 2) w fun t13 w =>
  o1 Tryz.prog (Instr.loadAt 3 t13) w fun t14 w =>
  o1 Tryz.prog (bin .add 3 (.tmp 12) (.tmp 14) t12 t14) w fun t15 w =>
  mv t15 fun t3_1 =>
  o1 Tryz.prog (bin .add 3 (.tmp 8) (.const (.int .i64 1)) (x1 8) (.int .i64 1)) w fun t16 w =>
  mv t16 fun t8_1 =>
  I1 [t3_1, t8_1] w ∧ μ1 [t3_1, t8_1] w < μ1 [x1 3, x1 8] w1) (fun _ =>
  mv (x1 3) fun t17 =>
  mv t17 fun t2_1 =>
  k t2_1 w)
theorem C.types_Total {k : Value → World → Prop} {a0 : Value} {w : World} (h : F.types_Total k a0 w) : C Tryz.prog N.types_Total #[a0] w k :=
  den_calls (H := { moves := [], vars := [2, 3, 8] }) (args := [a0]) mixed Tryz.func36 (by kernel_rfl) (by kernel_rfl) (by kernel_rfl) h

-- isthmus/types.EncodeSet
def F.types_EncodeSet (k : Value → World → Prop) (a0 : Value) (w : World) : Prop :=
  mv (.slice none 0 0) fun t2 =>
  mv a0 fun t3 =>
  C Tryz.prog N.types_encode_api_Validator #[t3, .func (.func 98) #[] #[]] w fun t4 w =>
  mv t4 fun t2_1 =>
  k t2_1 w
theorem C.types_EncodeSet {k : Value → World → Prop} {a0 : Value} {w : World} (h : F.types_EncodeSet k a0 w) : C Tryz.prog N.types_EncodeSet #[a0] w k :=
  den_calls (H := { moves := [], vars := [2] }) (args := [a0]) mixed Tryz.func40 (by kernel_rfl) (by kernel_rfl) (by kernel_rfl) h

-- isthmus/isthmusref11.Set
def F.isthmusref11_Set (k : Value → World → Prop) (a0 : Value) (w : World) : Prop :=
  mv (.slice none 0 0) fun t2 =>
  mv a0 fun t5 =>
  o1 Tryz.prog (Builtin.len_ #[70] 3 #[t5]) w fun t6 w =>
  o1 Tryz.prog (convert 3 105 t6) w fun t7 w =>
  C Tryz.prog N.isthmusref02_Uint #[.slice none 0 0, t7] w fun t8 w =>
  mv t8 fun t3 =>
  mv (.int .i64 0) fun t4 =>
  lp [t3, t4] w fun I1 μ1 => ∀ (x1 : Env) (w1 : World), I1 [x1 3, x1 4] w1 →
  mv (x1 4) fun t9 =>
  mv a0 fun t10 =>
  o1 Tryz.prog (Builtin.len_ #[70] 3 #[t10]) w1 fun t11 w =>
  o1 Tryz.prog (bin .lss 3 (.tmp 9) (.tmp 11) t9 t11) w fun t12 w =>
  br t12 (fun _ =>
  mv (x1 3) fun t15 =>
  mv a0 fun t16 =>
  mv (x1 4) fun t17 =>
  o1 Tryz.prog (Instr.indexAt 70 t16 t17) w fun t18 w =>
  o1 Tryz.prog (Instr.loadAt 76 t18) w fun t19 w =>
  C Tryz.prog N.isthmusref11_validator #[t15, t19] w fun t20 w =>
  mv t20 fun t3_1 =>
  mv (x1 4) fun t13 =>
  o1 Tryz.prog (bin .add 3 (.tmp 13) (.const (.int .i64 1)) t13 (.int .i64 1)) w fun t14 w =>
  mv t14 fun t4_1 =>
  I1 [t3_1, t4_1] w ∧ μ1 [t3_1, t4_1] w < μ1 [x1 3, x1 4] w1) (fun _ =>
  mv (x1 3) fun t21 =>
  mv t21 fun t2_1 =>
  k t2_1 w)
theorem C.isthmusref11_Set {k : Value → World → Prop} {a0 : Value} {w : World} (h : F.isthmusref11_Set k a0 w) : C Tryz.prog N.isthmusref11_Set #[a0] w k :=
  den_calls (H := { moves := [], vars := [2, 3, 4] }) (args := [a0]) mixed Tryz.func41 (by kernel_rfl) (by kernel_rfl) (by kernel_rfl) h

-- isthmus/types.VoteBytes
def F.types_VoteBytes (k : Value → World → Prop) (a0 a1 : Value) (w : World) : Prop :=
  o1 Tryz.prog (Instr.box 49 a1) w fun t3 w =>
  mv (.slice none 0 0) fun t4 =>
  dr w.drew fun S1 =>
  mv a0 fun t7 =>
  tk Tryz.prog S1 (Instr.fieldAt 49 t3 0) fun t9 =>
  tk Tryz.prog S1 (Instr.loadAt 3 t9) fun t10 =>
  tk Tryz.prog S1 (Instr.fieldAt 49 t3 1) fun t12 =>
  tk Tryz.prog S1 (Instr.loadAt 3 t12) fun t13 =>
  tk Tryz.prog S1 (Instr.fieldAt 49 t3 2) fun t15 =>
  tk Tryz.prog S1 (Instr.loadAt 3 t15) fun t16 =>
  tk Tryz.prog S1 (Instr.fieldAt 49 t3 3) fun t18 =>
  tk Tryz.prog S1 (Instr.loadAt 23 t18) fun t19 =>
  C Tryz.prog N.pack_New #[] w.drew fun t5 w =>
  S1 w ∧
  C Tryz.prog N.pack_Writer_Text #[t5, .string ⟨#[118, 111, 116, 101]⟩] w fun t6 w =>
  S1 w ∧
  C Tryz.prog N.pack_Writer_Text #[t6, t7] w fun t8 w =>
  S1 w ∧
  C Tryz.prog N.pack_Writer_Int #[t8, t10] w fun t11 w =>
  S1 w ∧
  C Tryz.prog N.pack_Writer_Int #[t11, t13] w fun t14 w =>
  S1 w ∧
  C Tryz.prog N.pack_Writer_Int #[t14, t16] w fun t17 w =>
  S1 w ∧
  C Tryz.prog N.pack_Writer_Hash #[t17, t19] w fun t20 w =>
  S1 w ∧
  C Tryz.prog N.pack_Writer_Done #[t20] w fun t21 w =>
  S1 w ∧
  mv t21 fun t4_1 =>
  k t4_1 w
theorem C.types_VoteBytes {k : Value → World → Prop} {a0 a1 : Value} {w : World} (h : F.types_VoteBytes k a0 a1 w) : C Tryz.prog N.types_VoteBytes #[a0, a1] w k :=
  den_calls (H := { moves := [(1, (.take 2 (.take 4 (.take 5 (.take 7 (.take 8 (.take 10 (.take 11 (.take 13 (.take 14 (.force 0 (.force 1 (.force 3 (.force 6 (.force 9 (.force 12 (.force 15 (.force 16 (.take 17 .fin)))))))))))))))))))], vars := [4] }) (args := [a0, a1]) mixed Tryz.func47 (by kernel_rfl) (by kernel_rfl) (by kernel_rfl) h

-- isthmus/isthmusref11.VoteBytes
def F.isthmusref11_VoteBytes (k : Value → World → Prop) (a0 a1 : Value) (w : World) : Prop :=
  o1 Tryz.prog (Instr.box 49 a1) w fun t3 w =>
  mv (.slice none 0 0) fun t4 =>
  C Tryz.prog N.isthmusref02_Text #[.slice none 0 0, .string ⟨#[118, 111, 116, 101]⟩] w fun t6 w =>
  mv a0 fun t7 =>
  C Tryz.prog N.isthmusref02_Text #[t6, t7] w fun t8 w =>
  mv t8 fun t5 =>
  dr w.drew fun S1 =>
  mv t5 fun t9 =>
  tk Tryz.prog S1 (Instr.fieldAt 49 t3 0) fun t10 =>
  tk Tryz.prog S1 (Instr.loadAt 3 t10) fun t11 =>
  tk Tryz.prog S1 (Instr.fieldAt 49 t3 1) fun t13 =>
  tk Tryz.prog S1 (Instr.loadAt 3 t13) fun t14 =>
  tk Tryz.prog S1 (Instr.fieldAt 49 t3 2) fun t16 =>
  tk Tryz.prog S1 (Instr.loadAt 3 t16) fun t17 =>
  tk Tryz.prog S1 (Instr.fieldAt 49 t3 3) fun t19 =>
  tk Tryz.prog S1 (Instr.loadAt 23 t19) fun t20 =>
  C Tryz.prog N.isthmusref02_Int #[t9, t11] w.drew fun t12 w =>
  S1 w ∧
  C Tryz.prog N.isthmusref02_Int #[t12, t14] w fun t15 w =>
  S1 w ∧
  C Tryz.prog N.isthmusref02_Int #[t15, t17] w fun t18 w =>
  S1 w ∧
  C Tryz.prog N.isthmusref02_Hash #[t18, t20] w fun t21 w =>
  S1 w ∧
  mv t21 fun t4_1 =>
  k t4_1 w
theorem C.isthmusref11_VoteBytes {k : Value → World → Prop} {a0 a1 : Value} {w : World} (h : F.isthmusref11_VoteBytes k a0 a1 w) : C Tryz.prog N.isthmusref11_VoteBytes #[a0, a1] w k :=
  den_calls (H := { moves := [(2, (.take 0 (.take 1 (.take 2 (.take 4 (.take 5 (.take 7 (.take 8 (.take 10 (.take 11 (.force 3 (.force 6 (.force 9 (.force 12 (.take 13 .fin)))))))))))))))], vars := [4, 5] }) (args := [a0, a1]) mixed Tryz.func48 (by kernel_rfl) (by kernel_rfl) (by kernel_rfl) h

-- errors.As
def F.errors_As (k : Value → World → Prop) (a0 a1 : Value) (w : World) : Prop :=
  mv (.bool false) fun t4 =>
  mv a0 fun t8 =>
  o1 Tryz.prog (bin .eql 34 (.tmp 8) (.const .nilIface) t8 .nilIface) w fun t9 w =>
  br t9 (fun _ =>
  mv (.bool false) fun t4_1 =>
  k t4_1 w) (fun _ =>
  mv a1 fun t10 =>
  o1 Tryz.prog (bin .eql 20 (.tmp 10) (.const .nilIface) t10 .nilIface) w fun t11 w =>
  jn (fun x1 => []) (fun k1 =>
  br t11 (fun _ =>
  o1 Tryz.prog (Instr.makeInterface 9 (.string ⟨#[101, 114, 114, 111, 114, 115, 58, 32, 116, 97, 114, 103, 101, 116, 32, 99, 97, 110, 110, 111, 116, 32, 98, 101, 32, 110, 105, 108]⟩)) w fun t12 w =>
  False) (fun _ =>
  k1 [] w)) fun x1 w =>
  mv a1 fun t13 =>
  oN Tryz.prog (callFunc N.internal_reflectlite_ValueOf #[t13]) w fun t14 w =>
  o1 Tryz.prog (Instr.alloc 159 true (.tuple #[])) w fun t5 w =>
  o0 Tryz.prog (Instr.storeAt 159 t5 t14) w fun _ w =>
  o1 Tryz.prog (Instr.loadAt 159 t5) w fun t15 w =>
  oN Tryz.prog (callFunc N.internal_reflectlite_Value_Type #[t15]) w fun t16 w =>
  mv t16 fun t6 =>
  mv t6 fun t17 =>
  iv Tryz.prog t17 "Kind" #[] w fun t18 w =>
  o1 Tryz.prog (bin .neq 164 (.tmp 18) (.const (.int .u8 22)) t18 (.int .u8 22)) w fun t19 w =>
  mv t19 fun t20 =>
  gd t20 false (fun k2 => o1 Tryz.prog (Instr.loadAt 159 t5) w k2) w fun t21 w =>
  gd t20 false (fun k3 => oN Tryz.prog (callFunc N.internal_reflectlite_Value_IsNil #[t21]) w k3) w fun t22 w =>
  pk t20 (.bool true) t22 fun t23 =>
  jn (fun x2 => []) (fun k4 =>
  br t23 (fun _ =>
  o1 Tryz.prog (Instr.makeInterface 9 (.string ⟨#[101, 114, 114, 111, 114, 115, 58, 32, 116, 97, 114, 103, 101, 116, 32, 109, 117, 115, 116, 32, 98, 101, 32, 97, 32, 110, 111, 110, 45, 110, 105, 108, 32, 112, 111, 105, 110, 116, 101, 114]⟩)) w fun t24 w =>
  False) (fun _ =>
  k4 [] w)) fun x2 w =>
  mv t6 fun t25 =>
  iv Tryz.prog t25 "Elem" #[] w fun t26 w =>
  mv t26 fun t7 =>
  mv t7 fun t27 =>
  iv Tryz.prog t27 "Kind" #[] w fun t28 w =>
  o1 Tryz.prog (bin .neq 164 (.tmp 28) (.const (.int .u8 20)) t28 (.int .u8 20)) w fun t29 w =>
  mv t29 fun t30 =>
  gd t30 true (fun k5 => mv t7 fun v => k5 v w) w fun t31 w =>
  gd t30 true (fun k6 => o1 Tryz.prog (Instr.loadAt 162 (.pointer (some ⟨0, 0, none⟩))) w k6) w fun t32 w =>
  gd t30 true (fun k7 => iv Tryz.prog t31 "Implements" #[t32] w k7) w fun t33 w =>
  gd t30 true (fun k8 => o1 Tryz.prog (Op.unary .not t33) w k8) w fun t34 w =>
  pk t30 t34 (.bool false) fun t35 =>
  jn (fun x3 => []) (fun k9 =>
  br t35 (fun _ =>
  o1 Tryz.prog (Instr.makeInterface 9 (.string ⟨#[101, 114, 114, 111, 114, 115, 58, 32, 42, 116, 97, 114, 103, 101, 116, 32, 109, 117, 115, 116, 32, 98, 101, 32, 105, 110, 116, 101, 114, 102, 97, 99, 101, 32, 111, 114, 32, 105, 109, 112, 108, 101, 109, 101, 110, 116, 32, 101, 114, 114, 111, 114]⟩)) w fun t36 w =>
  False) (fun _ =>
  k9 [] w)) fun x3 w =>
  mv a0 fun t37 =>
  mv a1 fun t38 =>
  o1 Tryz.prog (Instr.loadAt 159 t5) w fun t39 w =>
  mv t7 fun t40 =>
  C Tryz.prog N.errors_as #[t37, t38, t39, t40] w fun t41 w =>
  mv t41 fun t4_2 =>
  k t4_2 w)
theorem C.errors_As {k : Value → World → Prop} {a0 a1 : Value} {w : World} (h : F.errors_As k a0 a1 w) : C Tryz.prog N.errors_As #[a0, a1] w k :=
  den_calls (H := { moves := [], vars := [4, 6, 7] }) (args := [a0, a1]) mixed Tryz.func49 (by kernel_rfl) (by kernel_rfl) (by kernel_rfl) h

-- isthmus/types.named
def F.types_named (k : Value → World → Prop) (a0 : Value) (w : World) : Prop :=
  mv (.bool false) fun t2 =>
  mv a0 fun t3 =>
  o1 Tryz.prog (Builtin.len_ #[9] 3 #[t3]) w fun t4 w =>
  o1 Tryz.prog (bin .geq 3 (.tmp 4) (.const (.int .i64 1)) t4 (.int .i64 1)) w fun t5 w =>
  mv t5 fun t6 =>
  gd t6 true (fun k1 => mv a0 fun v => k1 v w) w fun t7 w =>
  gd t6 true (fun k2 => o1 Tryz.prog (Builtin.len_ #[9] 3 #[t7]) w k2) w fun t8 w =>
  gd t6 true (fun k3 => o1 Tryz.prog (bin .leq 3 (.tmp 8) (.const (.int .i64 64)) t8 (.int .i64 64)) w k3) w fun t9 w =>
  pk t6 t9 (.bool false) fun t10 =>
  mv t10 fun t11 =>
  gd t11 true (fun k4 => mv a0 fun v => k4 v w) w fun t12 w =>
  gd t11 true (fun k5 => o1 Tryz.prog (convert 9 39 t12) w k5) w fun t13 w =>
  gd t11 true (fun k6 => C Tryz.prog N.slices_ContainsFunc_byte_byte_110 #[t13, .func (.func 111) #[] #[]] w k6) w fun t14 w =>
  gd t11 true (fun k7 => o1 Tryz.prog (Op.unary .not t14) w k7) w fun t15 w =>
  pk t11 t15 (.bool false) fun t16 =>
  mv t16 fun t2_1 =>
  k t2_1 w
theorem C.types_named {k : Value → World → Prop} {a0 : Value} {w : World} (h : F.types_named k a0 w) : C Tryz.prog N.types_named #[a0] w k :=
  den_calls (H := { moves := [], vars := [2] }) (args := [a0]) mixed Tryz.func51 (by kernel_rfl) (by kernel_rfl) (by kernel_rfl) h

-- isthmus/types.fault
def F.types_fault (k : Value → World → Prop) (a0 a1 : Value) (w : World) : Prop :=
  mv .nilIface fun t4 =>
  mv a0 fun t5 =>
  mv a1 fun t6 =>
  o1 Tryz.prog (Instr.makeInterface 93 t6) w fun t7 w =>
  o1 Tryz.prog (Instr.build 173 #[(0, t5), (1, t7)]) w fun t8 w =>
  o1 Tryz.prog (Instr.box 173 t8) w fun t9 w =>
  o1 Tryz.prog (Instr.makeInterface 171 t9) w fun t10 w =>
  mv t10 fun t4_1 =>
  k t4_1 w
theorem C.types_fault {k : Value → World → Prop} {a0 a1 : Value} {w : World} (h : F.types_fault k a0 a1 w) : C Tryz.prog N.types_fault #[a0, a1] w k :=
  den_calls (H := { moves := [], vars := [4] }) (args := [a0, a1]) mixed Tryz.func53 (by kernel_rfl) (by kernel_rfl) (by kernel_rfl) h

-- isthmus/types.encode[isthmus/api.Block]
def F.types_encode_api_Block (k : Value → World → Prop) (a0 a1 : Value) (w : World) : Prop :=
  o1 Tryz.prog (Instr.box 31 a0) w fun t2 w =>
  mv (.slice none 0 0) fun t4 =>
  C Tryz.prog N.pack_New #[] w fun t6 w =>
  mv t6 fun t5 =>
  mv a1 fun t7 =>
  mv t5 fun t8 =>
  o1 Tryz.prog (Instr.loadAt 31 t2) w fun t9 w =>
  cv Tryz.prog t7 #[t8, t9] w fun t10 w =>
  mv t5 fun t11 =>
  C Tryz.prog N.pack_Writer_Done #[t11] w fun t12 w =>
  mv t12 fun t4_1 =>
  k t4_1 w
theorem C.types_encode_api_Block {k : Value → World → Prop} {a0 a1 : Value} {w : World} (h : F.types_encode_api_Block k a0 a1 w) : C Tryz.prog N.types_encode_api_Block #[a0, a1] w k :=
  den_calls (H := { moves := [], vars := [4, 5] }) (args := [a0, a1]) mixed Tryz.func61 (by kernel_rfl) (by kernel_rfl) (by kernel_rfl) h

-- isthmus/types.putBlock
def F.types_putBlock (k : Value → World → Prop) (a0 a1 : Value) (w : World) : Prop :=
  o1 Tryz.prog (Instr.box 31 a1) w fun t3 w =>
  mv a0 fun t6 =>
  o1 Tryz.prog (Instr.fieldAt 31 t3 0) w fun t7 w =>
  o1 Tryz.prog (Instr.loadAt 25 t7) w fun t8 w =>
  C Tryz.prog N.types_putHeader #[t6, t8] w fun t9 w =>
  mv a0 fun t10 =>
  o1 Tryz.prog (Instr.fieldAt 31 t3 1) w fun t11 w =>
  o1 Tryz.prog (Instr.loadAt 26 t11) w fun t12 w =>
  o1 Tryz.prog (Builtin.len_ #[26] 3 #[t12]) w fun t13 w =>
  o1 Tryz.prog (convert 3 105 t13) w fun t14 w =>
  C Tryz.prog N.pack_Writer_Uint #[t10, t14] w fun t15 w =>
  o1 Tryz.prog (Instr.fieldAt 31 t3 1) w fun t16 w =>
  o1 Tryz.prog (Instr.loadAt 26 t16) w fun t17 w =>
  o1 Tryz.prog (Builtin.len_ #[26] 3 #[t17]) w fun t18 w =>
  mv (.int .i64 0) fun t19 =>
  lp [undef, t19] w fun I1 μ1 => ∀ (x1 : Env) (w1 : World), I1 [x1 5, x1 19] w1 →
  o1 Tryz.prog (bin .lss 3 (.tmp 19) (.tmp 18) (x1 19) t18) w1 fun t20 w =>
  br t20 (fun _ =>
  o1 Tryz.prog (Instr.indexAt 26 t17 (x1 19)) w fun t21 w =>
  o1 Tryz.prog (Instr.loadAt 39 t21) w fun t22 w =>
  mv t22 fun t5 =>
  mv a0 fun t23 =>
  mv t5 fun t24 =>
  C Tryz.prog N.pack_Writer_Bytes #[t23, t24] w fun t25 w =>
  o1 Tryz.prog (bin .add 3 (.tmp 19) (.const (.int .i64 1)) (x1 19) (.int .i64 1)) w fun t26 w =>
  mv t26 fun t19_1 =>
  I1 [t5, t19_1] w ∧ μ1 [t5, t19_1] w < μ1 [x1 5, x1 19] w1) (fun _ =>
  mv a0 fun t27 =>
  o1 Tryz.prog (Instr.fieldAt 31 t3 2) w fun t28 w =>
  o1 Tryz.prog (Instr.loadAt 29 t28) w fun t29 w =>
  C Tryz.prog N.types_putCommit #[t27, t29] w fun t30 w =>
  k (.tuple #[]) w)
theorem C.types_putBlock {k : Value → World → Prop} {a0 a1 : Value} {w : World} (h : F.types_putBlock k a0 a1 w) : C Tryz.prog N.types_putBlock #[a0, a1] w k :=
  den_calls (H := { moves := [], vars := [5, 19] }) (args := [a0, a1]) mixed Tryz.func62 (by kernel_rfl) (by kernel_rfl) (by kernel_rfl) h

-- isthmus/isthmusref02.Uint
def F.isthmusref02_Uint (k : Value → World → Prop) (a0 a1 : Value) (w : World) : Prop :=
  mv (.slice none 0 0) fun t4 =>
  mv (.slice none 0 0) fun t5 =>
  mv t5 fun t6 =>
  mv a0 fun t7 =>
  ob Tryz.prog (fun _ => Builtin.append_ #[39, 39] 39 #[t6, t7]) w fun t8 w =>
  mv t8 fun t5_1 =>
  lp [a1, t5_1] w fun I1 μ1 => ∀ (x1 : Env) (w1 : World), I1 [x1 1, x1 5] w1 →
  mv (x1 1) fun t9 =>
  o1 Tryz.prog (bin .gtr 105 (.tmp 9) (.const (.int .u64 127)) t9 (.int .u64 127)) w1 fun t10 w =>
  br t10 (fun _ =>
  mv (x1 5) fun t11 =>
  mv (x1 1) fun t12 =>
  o1 Tryz.prog (bin .rem 105 (.tmp 12) (.const (.int .u64 128)) t12 (.int .u64 128)) w fun t13 w =>
  o1 Tryz.prog (convert 105 5 t13) w fun t14 w =>
  o1 Tryz.prog (bin .add 5 (.tmp 14) (.const (.int .u8 128)) t14 (.int .u8 128)) w fun t15 w =>
  o1 Tryz.prog (Instr.buildSlice 39 1 #[(0, t15)]) w fun t16 w =>
  ob Tryz.prog (fun _ => Builtin.append_ #[39, 39] 39 #[t11, t16]) w fun t17 w =>
  mv t17 fun t5_2 =>
  mv (x1 1) fun t18 =>
  o1 Tryz.prog (bin .quo 105 (.tmp 18) (.const (.int .u64 128)) t18 (.int .u64 128)) w fun t19 w =>
  mv t19 fun t1 =>
  I1 [t1, t5_2] w ∧ μ1 [t1, t5_2] w < μ1 [x1 1, x1 5] w1) (fun _ =>
  mv (x1 5) fun t20 =>
  mv (x1 1) fun t21 =>
  o1 Tryz.prog (convert 105 5 t21) w fun t22 w =>
  o1 Tryz.prog (Instr.buildSlice 39 1 #[(0, t22)]) w fun t23 w =>
  ob Tryz.prog (fun _ => Builtin.append_ #[39, 39] 39 #[t20, t23]) w fun t24 w =>
  mv t24 fun t4_1 =>
  k t4_1 w)
theorem C.isthmusref02_Uint {k : Value → World → Prop} {a0 a1 : Value} {w : World} (h : F.isthmusref02_Uint k a0 a1 w) : C Tryz.prog N.isthmusref02_Uint #[a0, a1] w k :=
  den_calls (H := { moves := [], vars := [1, 4, 5] }) (args := [a0, a1]) mixed Tryz.func63 (by kernel_rfl) (by kernel_rfl) (by kernel_rfl) h

-- isthmus/isthmusref02.Bytes
def F.isthmusref02_Bytes (k : Value → World → Prop) (a0 a1 : Value) (w : World) : Prop :=
  mv (.slice none 0 0) fun t4 =>
  mv a0 fun t5 =>
  mv a1 fun t6 =>
  o1 Tryz.prog (Builtin.len_ #[39] 3 #[t6]) w fun t7 w =>
  o1 Tryz.prog (convert 3 105 t7) w fun t8 w =>
  C Tryz.prog N.isthmusref02_Uint #[t5, t8] w fun t9 w =>
  mv a1 fun t10 =>
  ob Tryz.prog (fun _ => Builtin.append_ #[39, 39] 39 #[t9, t10]) w fun t11 w =>
  mv t11 fun t4_1 =>
  k t4_1 w
theorem C.isthmusref02_Bytes {k : Value → World → Prop} {a0 a1 : Value} {w : World} (h : F.isthmusref02_Bytes k a0 a1 w) : C Tryz.prog N.isthmusref02_Bytes #[a0, a1] w k :=
  den_calls (H := { moves := [], vars := [4] }) (args := [a0, a1]) mixed Tryz.func64 (by kernel_rfl) (by kernel_rfl) (by kernel_rfl) h

-- isthmus/types.encode[isthmus/api.Header]
def F.types_encode_api_Header (k : Value → World → Prop) (a0 a1 : Value) (w : World) : Prop :=
  o1 Tryz.prog (Instr.box 25 a0) w fun t2 w =>
  mv (.slice none 0 0) fun t4 =>
  C Tryz.prog N.pack_New #[] w fun t6 w =>
  mv t6 fun t5 =>
  mv a1 fun t7 =>
  mv t5 fun t8 =>
  o1 Tryz.prog (Instr.loadAt 25 t2) w fun t9 w =>
  cv Tryz.prog t7 #[t8, t9] w fun t10 w =>
  mv t5 fun t11 =>
  C Tryz.prog N.pack_Writer_Done #[t11] w fun t12 w =>
  mv t12 fun t4_1 =>
  k t4_1 w
theorem C.types_encode_api_Header {k : Value → World → Prop} {a0 a1 : Value} {w : World} (h : F.types_encode_api_Header k a0 a1 w) : C Tryz.prog N.types_encode_api_Header #[a0, a1] w k :=
  den_calls (H := { moves := [], vars := [4, 5] }) (args := [a0, a1]) mixed Tryz.func65 (by kernel_rfl) (by kernel_rfl) (by kernel_rfl) h

-- isthmus/types.putHeader
def F.types_putHeader (k : Value → World → Prop) (a0 a1 : Value) (w : World) : Prop :=
  o1 Tryz.prog (Instr.box 25 a1) w fun t3 w =>
  dr w.drew fun S1 =>
  mv a0 fun t4 =>
  tk Tryz.prog S1 (Instr.fieldAt 25 t3 0) fun t5 =>
  tk Tryz.prog S1 (Instr.loadAt 9 t5) fun t6 =>
  tk Tryz.prog S1 (Instr.fieldAt 25 t3 1) fun t8 =>
  tk Tryz.prog S1 (Instr.loadAt 3 t8) fun t9 =>
  tk Tryz.prog S1 (Instr.fieldAt 25 t3 2) fun t11 =>
  tk Tryz.prog S1 (Instr.loadAt 3 t11) fun t12 =>
  tk Tryz.prog S1 (Instr.fieldAt 25 t3 3) fun t14 =>
  tk Tryz.prog S1 (Instr.loadAt 23 t14) fun t15 =>
  tk Tryz.prog S1 (Instr.fieldAt 25 t3 4) fun t17 =>
  tk Tryz.prog S1 (Instr.loadAt 23 t17) fun t18 =>
  tk Tryz.prog S1 (Instr.fieldAt 25 t3 5) fun t20 =>
  tk Tryz.prog S1 (Instr.loadAt 23 t20) fun t21 =>
  tk Tryz.prog S1 (Instr.fieldAt 25 t3 6) fun t23 =>
  tk Tryz.prog S1 (Instr.loadAt 23 t23) fun t24 =>
  tk Tryz.prog S1 (Instr.fieldAt 25 t3 7) fun t26 =>
  tk Tryz.prog S1 (Instr.loadAt 23 t26) fun t27 =>
  tk Tryz.prog S1 (Instr.fieldAt 25 t3 8) fun t29 =>
  tk Tryz.prog S1 (Instr.loadAt 3 t29) fun t30 =>
  C Tryz.prog N.pack_Writer_Text #[t4, t6] w.drew fun t7 w =>
  S1 w ∧
  C Tryz.prog N.pack_Writer_Int #[t7, t9] w fun t10 w =>
  S1 w ∧
  C Tryz.prog N.pack_Writer_Int #[t10, t12] w fun t13 w =>
  S1 w ∧
  C Tryz.prog N.pack_Writer_Hash #[t13, t15] w fun t16 w =>
  S1 w ∧
  C Tryz.prog N.pack_Writer_Hash #[t16, t18] w fun t19 w =>
  S1 w ∧
  C Tryz.prog N.pack_Writer_Hash #[t19, t21] w fun t22 w =>
  S1 w ∧
  C Tryz.prog N.pack_Writer_Hash #[t22, t24] w fun t25 w =>
  S1 w ∧
  C Tryz.prog N.pack_Writer_Hash #[t25, t27] w fun t28 w =>
  S1 w ∧
  C Tryz.prog N.pack_Writer_Int #[t28, t30] w fun t31 w =>
  k (.tuple #[]) w
theorem C.types_putHeader {k : Value → World → Prop} {a0 a1 : Value} {w : World} (h : F.types_putHeader k a0 a1 w) : C Tryz.prog N.types_putHeader #[a0, a1] w k :=
  den_calls (H := { moves := [(1, (.take 0 (.take 1 (.take 2 (.take 4 (.take 5 (.take 7 (.take 8 (.take 10 (.take 11 (.take 13 (.take 14 (.take 16 (.take 17 (.take 19 (.take 20 (.take 22 (.take 23 (.take 25 (.take 26 (.force 3 (.force 6 (.force 9 (.force 12 (.force 15 (.force 18 (.force 21 (.force 24 (.last 27)))))))))))))))))))))))))))))], vars := [] }) (args := [a0, a1]) mixed Tryz.func66 (by kernel_rfl) (by kernel_rfl) (by kernel_rfl) h

-- isthmus/isthmusref02.Int
def F.isthmusref02_Int (k : Value → World → Prop) (a0 a1 : Value) (w : World) : Prop :=
  mv (.slice none 0 0) fun t4 =>
  mv a1 fun t5 =>
  o1 Tryz.prog (bin .lss 3 (.tmp 5) (.const (.int .i64 0)) t5 (.int .i64 0)) w fun t6 w =>
  br t6 (fun _ =>
  mv a0 fun t7 =>
  mv a1 fun t8 =>
  o1 Tryz.prog (bin .add 3 (.tmp 8) (.const (.int .i64 1)) t8 (.int .i64 1)) w fun t9 w =>
  o1 Tryz.prog (Op.unary .neg t9) w fun t10 w =>
  o1 Tryz.prog (convert 3 105 t10) w fun t11 w =>
  o1 Tryz.prog (bin .mul 105 (.const (.int .u64 2)) (.tmp 11) (.int .u64 2) t11) w fun t12 w =>
  o1 Tryz.prog (bin .add 105 (.tmp 12) (.const (.int .u64 1)) t12 (.int .u64 1)) w fun t13 w =>
  C Tryz.prog N.isthmusref02_Uint #[t7, t13] w fun t14 w =>
  mv t14 fun t4_1 =>
  k t4_1 w) (fun _ =>
  mv a0 fun t15 =>
  mv a1 fun t16 =>
  o1 Tryz.prog (convert 3 105 t16) w fun t17 w =>
  o1 Tryz.prog (bin .mul 105 (.const (.int .u64 2)) (.tmp 17) (.int .u64 2) t17) w fun t18 w =>
  C Tryz.prog N.isthmusref02_Uint #[t15, t18] w fun t19 w =>
  mv t19 fun t4_2 =>
  k t4_2 w)
theorem C.isthmusref02_Int {k : Value → World → Prop} {a0 a1 : Value} {w : World} (h : F.isthmusref02_Int k a0 a1 w) : C Tryz.prog N.isthmusref02_Int #[a0, a1] w k :=
  den_calls (H := { moves := [], vars := [4] }) (args := [a0, a1]) mixed Tryz.func67 (by kernel_rfl) (by kernel_rfl) (by kernel_rfl) h

-- isthmus/isthmusref02.Text
def F.isthmusref02_Text (k : Value → World → Prop) (a0 a1 : Value) (w : World) : Prop :=
  mv (.slice none 0 0) fun t4 =>
  mv a0 fun t5 =>
  mv a1 fun t6 =>
  o1 Tryz.prog (Builtin.len_ #[9] 3 #[t6]) w fun t7 w =>
  o1 Tryz.prog (convert 3 105 t7) w fun t8 w =>
  C Tryz.prog N.isthmusref02_Uint #[t5, t8] w fun t9 w =>
  mv a1 fun t10 =>
  ob Tryz.prog (fun _ => Builtin.append_ #[39, 9] 39 #[t9, t10]) w fun t11 w =>
  mv t11 fun t4_1 =>
  k t4_1 w
theorem C.isthmusref02_Text {k : Value → World → Prop} {a0 a1 : Value} {w : World} (h : F.isthmusref02_Text k a0 a1 w) : C Tryz.prog N.isthmusref02_Text #[a0, a1] w k :=
  den_calls (H := { moves := [], vars := [4] }) (args := [a0, a1]) mixed Tryz.func68 (by kernel_rfl) (by kernel_rfl) (by kernel_rfl) h

-- isthmus/isthmusref02.Hash
def F.isthmusref02_Hash (k : Value → World → Prop) (a0 a1 : Value) (w : World) : Prop :=
  o1 Tryz.prog (Instr.box 23 a1) w fun t3 w =>
  mv (.slice none 0 0) fun t4 =>
  mv (.slice none 0 0) fun t5 =>
  dr w.drew fun S1 =>
  mv t5 fun t6 =>
  mv a0 fun t7 =>
  tk Tryz.prog S1 (Instr.sliceAt 23 t3 none none none) fun t9 =>
  ob Tryz.prog (fun _ => Builtin.append_ #[39, 39] 39 #[t6, t7]) w.drew fun t8 w =>
  S1 w ∧
  ob Tryz.prog (fun _ => Builtin.append_ #[39, 39] 39 #[t8, t9]) w fun t10 w =>
  S1 w ∧
  mv t10 fun t4_1 =>
  k t4_1 w
theorem C.isthmusref02_Hash {k : Value → World → Prop} {a0 a1 : Value} {w : World} (h : F.isthmusref02_Hash k a0 a1 w) : C Tryz.prog N.isthmusref02_Hash #[a0, a1] w k :=
  den_calls (H := { moves := [(2, (.take 0 (.take 1 (.take 3 (.force 2 (.force 4 (.take 5 .fin)))))))], vars := [4, 5] }) (args := [a0, a1]) mixed Tryz.func69 (by kernel_rfl) (by kernel_rfl) (by kernel_rfl) h

-- isthmus/types.encode[isthmus/api.Commit]
def F.types_encode_api_Commit (k : Value → World → Prop) (a0 a1 : Value) (w : World) : Prop :=
  o1 Tryz.prog (Instr.box 29 a0) w fun t2 w =>
  mv (.slice none 0 0) fun t4 =>
  C Tryz.prog N.pack_New #[] w fun t6 w =>
  mv t6 fun t5 =>
  mv a1 fun t7 =>
  mv t5 fun t8 =>
  o1 Tryz.prog (Instr.loadAt 29 t2) w fun t9 w =>
  cv Tryz.prog t7 #[t8, t9] w fun t10 w =>
  mv t5 fun t11 =>
  C Tryz.prog N.pack_Writer_Done #[t11] w fun t12 w =>
  mv t12 fun t4_1 =>
  k t4_1 w
theorem C.types_encode_api_Commit {k : Value → World → Prop} {a0 a1 : Value} {w : World} (h : F.types_encode_api_Commit k a0 a1 w) : C Tryz.prog N.types_encode_api_Commit #[a0, a1] w k :=
  den_calls (H := { moves := [], vars := [4, 5] }) (args := [a0, a1]) mixed Tryz.func70 (by kernel_rfl) (by kernel_rfl) (by kernel_rfl) h

-- isthmus/types.putCommit
def F.types_putCommit (k : Value → World → Prop) (a0 a1 : Value) (w : World) : Prop :=
  o1 Tryz.prog (Instr.box 29 a1) w fun t3 w =>
  dr w.drew fun S1 =>
  mv a0 fun t6 =>
  tk Tryz.prog S1 (Instr.fieldAt 29 t3 0) fun t7 =>
  tk Tryz.prog S1 (Instr.loadAt 3 t7) fun t8 =>
  tk Tryz.prog S1 (Instr.fieldAt 29 t3 1) fun t10 =>
  tk Tryz.prog S1 (Instr.loadAt 3 t10) fun t11 =>
  tk Tryz.prog S1 (Instr.fieldAt 29 t3 2) fun t13 =>
  tk Tryz.prog S1 (Instr.loadAt 23 t13) fun t14 =>
  tk Tryz.prog S1 (Instr.fieldAt 29 t3 3) fun t16 =>
  tk Tryz.prog S1 (Instr.loadAt 27 t16) fun t17 =>
  tk Tryz.prog S1 (Builtin.len_ #[27] 3 #[t17]) fun t18 =>
  tk Tryz.prog S1 (convert 3 105 t18) fun t19 =>
  C Tryz.prog N.pack_Writer_Int #[t6, t8] w.drew fun t9 w =>
  S1 w ∧
  C Tryz.prog N.pack_Writer_Int #[t9, t11] w fun t12 w =>
  S1 w ∧
  C Tryz.prog N.pack_Writer_Hash #[t12, t14] w fun t15 w =>
  S1 w ∧
  C Tryz.prog N.pack_Writer_Uint #[t15, t19] w fun t20 w =>
  o1 Tryz.prog (Instr.fieldAt 29 t3 3) w fun t21 w =>
  o1 Tryz.prog (Instr.loadAt 27 t21) w fun t22 w =>
  o1 Tryz.prog (Builtin.len_ #[27] 3 #[t22]) w fun t23 w =>
  mv (.int .i64 0) fun t24 =>
  lp [t24] w fun I1 μ1 => ∀ (x1 : Env) (w1 : World), I1 [x1 24] w1 →
  o1 Tryz.prog (bin .lss 3 (.tmp 24) (.tmp 23) (x1 24) t23) w1 fun t25 w =>
  br t25 (fun _ =>
  o1 Tryz.prog (Instr.indexAt 27 t22 (x1 24)) w fun t26 w =>
  o1 Tryz.prog (Instr.loadAt 49 t26) w fun t27 w =>
  o1 Tryz.prog (Instr.alloc 49 true (.tuple #[])) w fun t5 w =>
  o0 Tryz.prog (Instr.storeAt 49 t5 t27) w fun _ w =>
  mv a0 fun t28 =>
  o1 Tryz.prog (Instr.loadAt 49 t5) w fun t29 w =>
  C Tryz.prog N.types_putVote #[t28, t29] w fun t30 w =>
  o1 Tryz.prog (bin .add 3 (.tmp 24) (.const (.int .i64 1)) (x1 24) (.int .i64 1)) w fun t31 w =>
  mv t31 fun t24_1 =>
  I1 [t24_1] w ∧ μ1 [t24_1] w < μ1 [x1 24] w1) (fun _ =>
  k (.tuple #[]) w)
theorem C.types_putCommit {k : Value → World → Prop} {a0 a1 : Value} {w : World} (h : F.types_putCommit k a0 a1 w) : C Tryz.prog N.types_putCommit #[a0, a1] w k :=
  den_calls (H := { moves := [(1, (.take 0 (.take 1 (.take 2 (.take 4 (.take 5 (.take 7 (.take 8 (.take 10 (.take 11 (.take 12 (.take 13 (.force 3 (.force 6 (.force 9 (.last 14))))))))))))))))], vars := [24] }) (args := [a0, a1]) mixed Tryz.func71 (by kernel_rfl) (by kernel_rfl) (by kernel_rfl) h

-- isthmus/isthmusref11.Vote
def F.isthmusref11_Vote (k : Value → World → Prop) (a0 a1 : Value) (w : World) : Prop :=
  o1 Tryz.prog (Instr.box 49 a1) w fun t3 w =>
  mv (.slice none 0 0) fun t4 =>
  dr w.drew fun S1 =>
  mv a0 fun t5 =>
  tk Tryz.prog S1 (Instr.fieldAt 49 t3 0) fun t6 =>
  tk Tryz.prog S1 (Instr.loadAt 3 t6) fun t7 =>
  tk Tryz.prog S1 (Instr.fieldAt 49 t3 1) fun t9 =>
  tk Tryz.prog S1 (Instr.loadAt 3 t9) fun t10 =>
  tk Tryz.prog S1 (Instr.fieldAt 49 t3 2) fun t12 =>
  tk Tryz.prog S1 (Instr.loadAt 3 t12) fun t13 =>
  tk Tryz.prog S1 (Instr.fieldAt 49 t3 3) fun t15 =>
  tk Tryz.prog S1 (Instr.loadAt 23 t15) fun t16 =>
  C Tryz.prog N.isthmusref02_Int #[t5, t7] w.drew fun t8 w =>
  S1 w ∧
  C Tryz.prog N.isthmusref02_Int #[t8, t10] w fun t11 w =>
  S1 w ∧
  C Tryz.prog N.isthmusref02_Int #[t11, t13] w fun t14 w =>
  S1 w ∧
  C Tryz.prog N.isthmusref02_Hash #[t14, t16] w fun t17 w =>
  S1 w ∧
  mv t17 fun t0 =>
  dr w.drew fun S2 =>
  mv t0 fun t18 =>
  tk Tryz.prog S2 (Instr.fieldAt 49 t3 4) fun t19 =>
  tk Tryz.prog S2 (Instr.loadAt 3 t19) fun t20 =>
  tk Tryz.prog S2 (Instr.fieldAt 49 t3 5) fun t22 =>
  tk Tryz.prog S2 (Instr.loadAt 39 t22) fun t23 =>
  C Tryz.prog N.isthmusref02_Int #[t18, t20] w.drew fun t21 w =>
  S2 w ∧
  C Tryz.prog N.isthmusref02_Bytes #[t21, t23] w fun t24 w =>
  S2 w ∧
  mv t24 fun t4_1 =>
  k t4_1 w
theorem C.isthmusref11_Vote {k : Value → World → Prop} {a0 a1 : Value} {w : World} (h : F.isthmusref11_Vote k a0 a1 w) : C Tryz.prog N.isthmusref11_Vote #[a0, a1] w k :=
  den_calls (H := { moves := [(1, (.take 0 (.take 1 (.take 2 (.take 4 (.take 5 (.take 7 (.take 8 (.take 10 (.take 11 (.force 3 (.force 6 (.force 9 (.force 12 (.take 13 .fin))))))))))))))), (2, (.take 0 (.take 1 (.take 2 (.take 4 (.take 5 (.force 3 (.force 6 (.take 7 .fin)))))))))], vars := [0, 4] }) (args := [a0, a1]) mixed Tryz.func72 (by kernel_rfl) (by kernel_rfl) (by kernel_rfl) h

-- isthmus/types.VerifyTrust
def F.types_VerifyTrust (k : Value → World → Prop) (a0 a1 a2 : Value) (w : World) : Prop :=
  o1 Tryz.prog (Instr.box 70 a1) w fun t4 w =>
  o1 Tryz.prog (Instr.box 29 a2) w fun t5 w =>
  mv .nilIface fun t6 =>
  o1 Tryz.prog (Instr.makeFunc (.func 125) #[] #[t5, t4]) w fun t11 w =>
  mv t11 fun t7 =>
  mv (.int .i64 0) fun t8 =>
  mv a0 fun t12 =>
  o1 Tryz.prog (Builtin.len_ #[70] 3 #[t12]) w fun t13 w =>
  mv (.int .i64 0) fun t14 =>
  lp [t8, t14] w fun I1 μ1 => ∀ (x1 : Env) (w1 : World), I1 [x1 8, x1 14] w1 →
  o1 Tryz.prog (bin .lss 3 (.tmp 14) (.tmp 13) (x1 14) t13) w1 fun t15 w =>
  br t15 (fun _ =>
  o1 Tryz.prog (Instr.indexAt 70 t12 (x1 14)) w fun t16 w =>
  o1 Tryz.prog (Instr.loadAt 76 t16) w fun t17 w =>
  o1 Tryz.prog (Instr.alloc 76 true (.tuple #[])) w fun t10 w =>
  o0 Tryz.prog (Instr.storeAt 76 t10 t17) w fun _ w =>
  mv t7 fun t18 =>
  o1 Tryz.prog (Instr.loadAt 76 t10) w fun t19 w =>
  cv Tryz.prog t18 #[t19] w fun t20 w =>
  jn (fun x2 => [x2 8]) (fun k1 =>
  br t20 (fun _ =>
  mv (x1 8) fun t21 =>
  o1 Tryz.prog (Instr.fieldAt 76 t10 2) w fun t22 w =>
  o1 Tryz.prog (Instr.loadAt 3 t22) w fun t23 w =>
  o1 Tryz.prog (bin .add 3 (.tmp 21) (.tmp 23) t21 t23) w fun t24 w =>
  mv t24 fun t8_1 =>
  k1 [t8_1] w) (fun _ =>
  k1 [(x1 8)] w)) fun x2 w =>
  o1 Tryz.prog (bin .add 3 (.tmp 14) (.const (.int .i64 1)) (x1 14) (.int .i64 1)) w fun t25 w =>
  mv t25 fun t14_1 =>
  I1 [(x2 8), t14_1] w ∧ μ1 [(x2 8), t14_1] w < μ1 [x1 8, x1 14] w1) (fun _ =>
  mv (x1 8) fun t26 =>
  o1 Tryz.prog (bin .mul 3 (.const (.int .i64 3)) (.tmp 26) (.int .i64 3) t26) w fun t27 w =>
  mv a0 fun t28 =>
  C Tryz.prog N.types_Total #[t28] w fun t29 w =>
  o1 Tryz.prog (bin .leq 3 (.tmp 27) (.tmp 29) t27 t29) w fun t30 w =>
  br t30 (fun _ =>
  C Tryz.prog N.types_fault #[.string ⟨#[116, 114, 117, 115, 116]⟩, .int .i64 32] w fun t31 w =>
  mv t31 fun t6_1 =>
  k t6_1 w) (fun _ =>
  mv .nilIface fun t6_2 =>
  k t6_2 w))
theorem C.types_VerifyTrust {k : Value → World → Prop} {a0 a1 a2 : Value} {w : World} (h : F.types_VerifyTrust k a0 a1 a2 w) : C Tryz.prog N.types_VerifyTrust #[a0, a1, a2] w k :=
  den_calls (H := { moves := [], vars := [6, 7, 8, 14] }) (args := [a0, a1, a2]) mixed Tryz.func73 (by kernel_rfl) (by kernel_rfl) (by kernel_rfl) h

-- isthmus/types.decode[isthmus/api.Vote]
def F.types_decode_api_Vote (k : Value → World → Prop) (a0 a1 : Value) (w : World) : Prop :=
  o1 Tryz.prog (Instr.alloc 49 true (.tuple #[])) w fun t4 w =>
  mv .nilIface fun t5 =>
  mv a0 fun t9 =>
  C Tryz.prog N.pack_Read #[t9] w fun t10 w =>
  mv t10 fun t6 =>
  mv a1 fun t11 =>
  mv t6 fun t12 =>
  cv Tryz.prog t11 #[t12] w fun t13 w =>
  o1 Tryz.prog (Instr.alloc 49 true (.tuple #[])) w fun t7 w =>
  o0 Tryz.prog (Instr.storeAt 49 t7 t13) w fun _ w =>
  mv t6 fun t14 =>
  C Tryz.prog N.pack_Reader_Done #[t14] w fun t15 w =>
  o1 Tryz.prog (bin .neq 34 (.tmp 15) (.const .nilIface) t15 .nilIface) w fun t16 w =>
  br t16 (fun _ =>
  o1 Tryz.prog (Instr.alloc 49 true (.tuple #[])) w fun t8 w =>
  dr w.drew fun S1 =>
  tk Tryz.prog S1 (Instr.loadAt 49 t8) fun t17 =>
  C Tryz.prog N.types_fault #[.string ⟨#[98, 121, 116, 101, 115]⟩, .int .i64 3] w.drew fun t18 w =>
  S1 w ∧
  o0 Tryz.prog (Instr.storeAt 49 t4 t17) w fun _ w =>
  S1 w ∧
  mv t18 fun t5_1 =>
  rc Tryz.prog 49 t4 w fun r0 =>
  k (.tuple #[r0, t5_1]) w) (fun _ =>
  o1 Tryz.prog (Instr.loadAt 49 t7) w fun t19 w =>
  o0 Tryz.prog (Instr.storeAt 49 t4 t19) w fun _ w =>
  mv .nilIface fun t5_2 =>
  rc Tryz.prog 49 t4 w fun r0 =>
  k (.tuple #[r0, t5_2]) w)
theorem C.types_decode_api_Vote {k : Value → World → Prop} {a0 a1 : Value} {w : World} (h : F.types_decode_api_Vote k a0 a1 w) : C Tryz.prog N.types_decode_api_Vote #[a0, a1] w k :=
  den_calls (H := { moves := [(5, (.take 0 (.force 1 (.force 2 (.take 3 .fin)))))], vars := [5, 6] }) (args := [a0, a1]) mixed Tryz.func74 (by kernel_rfl) (by kernel_rfl) (by kernel_rfl) h

-- isthmus/types.getVote
def F.types_getVote (k : Value → World → Prop) (a0 : Value) (w : World) : Prop :=
  o1 Tryz.prog (Instr.alloc 49 true (.tuple #[])) w fun t2 w =>
  mv a0 fun t3 =>
  C Tryz.prog N.pack_Reader_Int #[t3] w fun t4 w =>
  mv a0 fun t5 =>
  C Tryz.prog N.pack_Reader_Int #[t5] w fun t6 w =>
  mv a0 fun t7 =>
  C Tryz.prog N.pack_Reader_Int #[t7] w fun t8 w =>
  mv a0 fun t9 =>
  C Tryz.prog N.pack_Reader_Hash #[t9] w fun t10 w =>
  mv a0 fun t11 =>
  C Tryz.prog N.pack_Reader_Int #[t11] w fun t12 w =>
  mv a0 fun t13 =>
  C Tryz.prog N.pack_Reader_Bytes #[t13, .int .i64 65536] w fun t14 w =>
  o1 Tryz.prog (Instr.build 49 #[(0, t4), (1, t6), (2, t8), (3, t10), (4, t12), (5, t14)]) w fun t15 w =>
  o0 Tryz.prog (Instr.storeAt 49 t2 t15) w fun _ w =>
  rc Tryz.prog 49 t2 w fun r0 =>
  k r0 w
theorem C.types_getVote {k : Value → World → Prop} {a0 : Value} {w : World} (h : F.types_getVote k a0 w) : C Tryz.prog N.types_getVote #[a0] w k :=
  den_calls (H := { moves := [], vars := [] }) (args := [a0]) mixed Tryz.func75 (by kernel_rfl) (by kernel_rfl) (by kernel_rfl) h

-- isthmus/isthmusref11.ReadVote
def F.isthmusref11_ReadVote (k : Value → World → Prop) (a0 : Value) (w : World) : Prop :=
  o1 Tryz.prog (Instr.box 119 a0) w fun t1 w =>
  o1 Tryz.prog (Instr.alloc 119 true (.tuple #[])) w fun t2 w =>
  o1 Tryz.prog (Instr.alloc 49 true (.tuple #[])) w fun t3 w =>
  o1 Tryz.prog (Instr.build 49 #[]) w fun t5 w =>
  o1 Tryz.prog (Instr.alloc 49 true (.tuple #[])) w fun t4 w =>
  o0 Tryz.prog (Instr.storeAt 49 t4 t5) w fun _ w =>
  o1 Tryz.prog (Instr.loadAt 119 t1) w fun t7 w =>
  C Tryz.prog N.isthmusref02_ReadInt #[t7] w fun t8 w =>
  mv t8 fun t6 =>
  o1 Tryz.prog (Instr.extract t6 0) w fun t9 w =>
  o1 Tryz.prog (Instr.extract t6 1) w fun t10 w =>
  o0 Tryz.prog (Instr.storeAt 119 t1 t9) w fun _ w =>
  o1 Tryz.prog (Instr.fieldAt 49 t4 0) w fun t11 w =>
  o0 Tryz.prog (Instr.storeAt 3 t11 t10) w fun _ w =>
  o1 Tryz.prog (Instr.loadAt 119 t1) w fun t13 w =>
  C Tryz.prog N.isthmusref02_ReadInt #[t13] w fun t14 w =>
  mv t14 fun t12 =>
  o1 Tryz.prog (Instr.extract t12 0) w fun t15 w =>
  o1 Tryz.prog (Instr.extract t12 1) w fun t16 w =>
  o0 Tryz.prog (Instr.storeAt 119 t1 t15) w fun _ w =>
  o1 Tryz.prog (Instr.fieldAt 49 t4 1) w fun t17 w =>
  o0 Tryz.prog (Instr.storeAt 3 t17 t16) w fun _ w =>
  o1 Tryz.prog (Instr.loadAt 119 t1) w fun t19 w =>
  C Tryz.prog N.isthmusref02_ReadInt #[t19] w fun t20 w =>
  mv t20 fun t18 =>
  o1 Tryz.prog (Instr.extract t18 0) w fun t21 w =>
  o1 Tryz.prog (Instr.extract t18 1) w fun t22 w =>
  o0 Tryz.prog (Instr.storeAt 119 t1 t21) w fun _ w =>
  o1 Tryz.prog (Instr.fieldAt 49 t4 2) w fun t23 w =>
  o0 Tryz.prog (Instr.storeAt 3 t23 t22) w fun _ w =>
  o1 Tryz.prog (Instr.loadAt 119 t1) w fun t25 w =>
  C Tryz.prog N.isthmusref02_ReadHash #[t25] w fun t26 w =>
  mv t26 fun t24 =>
  o1 Tryz.prog (Instr.extract t24 0) w fun t27 w =>
  o1 Tryz.prog (Instr.extract t24 1) w fun t28 w =>
  o0 Tryz.prog (Instr.storeAt 119 t1 t27) w fun _ w =>
  o1 Tryz.prog (Instr.fieldAt 49 t4 3) w fun t29 w =>
  o0 Tryz.prog (Instr.storeAt 23 t29 t28) w fun _ w =>
  o1 Tryz.prog (Instr.loadAt 119 t1) w fun t31 w =>
  C Tryz.prog N.isthmusref02_ReadInt #[t31] w fun t32 w =>
  mv t32 fun t30 =>
  o1 Tryz.prog (Instr.extract t30 0) w fun t33 w =>
  o1 Tryz.prog (Instr.extract t30 1) w fun t34 w =>
  o0 Tryz.prog (Instr.storeAt 119 t1 t33) w fun _ w =>
  o1 Tryz.prog (Instr.fieldAt 49 t4 4) w fun t35 w =>
  o0 Tryz.prog (Instr.storeAt 3 t35 t34) w fun _ w =>
  o1 Tryz.prog (Instr.loadAt 119 t1) w fun t37 w =>
  C Tryz.prog N.isthmusref02_ReadBytes #[t37, .int .i64 65536] w fun t38 w =>
  mv t38 fun t36 =>
  o1 Tryz.prog (Instr.extract t36 0) w fun t39 w =>
  o1 Tryz.prog (Instr.extract t36 1) w fun t40 w =>
  o0 Tryz.prog (Instr.storeAt 119 t1 t39) w fun _ w =>
  o1 Tryz.prog (Instr.fieldAt 49 t4 5) w fun t41 w =>
  o0 Tryz.prog (Instr.storeAt 39 t41 t40) w fun _ w =>
  dr w.drew fun S1 =>
  tk Tryz.prog S1 (Instr.loadAt 119 t1) fun t42 =>
  tk Tryz.prog S1 (Instr.loadAt 49 t4) fun t43 =>
  o0 Tryz.prog (Instr.storeAt 119 t2 t42) w.drew fun _ w =>
  S1 w ∧
  o0 Tryz.prog (Instr.storeAt 49 t3 t43) w fun _ w =>
  rc Tryz.prog 119 t2 w fun r0 =>
  rc Tryz.prog 49 t3 w fun r1 =>
  k (.tuple #[r0, r1]) w
theorem C.isthmusref11_ReadVote {k : Value → World → Prop} {a0 : Value} {w : World} (h : F.isthmusref11_ReadVote k a0 w) : C Tryz.prog N.isthmusref11_ReadVote #[a0] w k :=
  den_calls (H := { moves := [(8, (.take 0 (.take 1 (.force 2 (.last 3)))))], vars := [] }) (args := [a0]) mixed Tryz.func76 (by kernel_rfl) (by kernel_rfl) (by kernel_rfl) h

-- isthmus/isthmusref02.Done
def F.isthmusref02_Done (k : Value → World → Prop) (a0 : Value) (w : World) : Prop :=
  o1 Tryz.prog (Instr.box 119 a0) w fun t1 w =>
  mv (.int .i64 0) fun t2 =>
  o1 Tryz.prog (Instr.fieldAt 119 t1 1) w fun t3 w =>
  o1 Tryz.prog (Instr.loadAt 3 t3) w fun t4 w =>
  o1 Tryz.prog (bin .eql 3 (.tmp 4) (.const (.int .i64 0)) t4 (.int .i64 0)) w fun t5 w =>
  mv t5 fun t6 =>
  gd t6 true (fun k1 => o1 Tryz.prog (Instr.fieldAt 119 t1 0) w k1) w fun t7 w =>
  gd t6 true (fun k2 => o1 Tryz.prog (Instr.loadAt 39 t7) w k2) w fun t8 w =>
  gd t6 true (fun k3 => o1 Tryz.prog (Builtin.len_ #[39] 3 #[t8]) w k3) w fun t9 w =>
  gd t6 true (fun k4 => o1 Tryz.prog (bin .gtr 3 (.tmp 9) (.const (.int .i64 0)) t9 (.int .i64 0)) w k4) w fun t10 w =>
  pk t6 t10 (.bool false) fun t11 =>
  br t11 (fun _ =>
  mv (.int .i64 3) fun t2_1 =>
  k t2_1 w) (fun _ =>
  o1 Tryz.prog (Instr.fieldAt 119 t1 1) w fun t12 w =>
  o1 Tryz.prog (Instr.loadAt 3 t12) w fun t13 w =>
  mv t13 fun t2_2 =>
  k t2_2 w)
theorem C.isthmusref02_Done {k : Value → World → Prop} {a0 : Value} {w : World} (h : F.isthmusref02_Done k a0 w) : C Tryz.prog N.isthmusref02_Done #[a0] w k :=
  den_calls (H := { moves := [], vars := [2] }) (args := [a0]) mixed Tryz.func77 (by kernel_rfl) (by kernel_rfl) (by kernel_rfl) h

-- isthmus/types.decode[isthmus/api.Commit]
def F.types_decode_api_Commit (k : Value → World → Prop) (a0 a1 : Value) (w : World) : Prop :=
  o1 Tryz.prog (Instr.alloc 29 true (.tuple #[])) w fun t4 w =>
  mv .nilIface fun t5 =>
  mv a0 fun t9 =>
  C Tryz.prog N.pack_Read #[t9] w fun t10 w =>
  mv t10 fun t6 =>
  mv a1 fun t11 =>
  mv t6 fun t12 =>
  cv Tryz.prog t11 #[t12] w fun t13 w =>
  o1 Tryz.prog (Instr.alloc 29 true (.tuple #[])) w fun t7 w =>
  o0 Tryz.prog (Instr.storeAt 29 t7 t13) w fun _ w =>
  mv t6 fun t14 =>
  C Tryz.prog N.pack_Reader_Done #[t14] w fun t15 w =>
  o1 Tryz.prog (bin .neq 34 (.tmp 15) (.const .nilIface) t15 .nilIface) w fun t16 w =>
  br t16 (fun _ =>
  o1 Tryz.prog (Instr.alloc 29 true (.tuple #[])) w fun t8 w =>
  dr w.drew fun S1 =>
  tk Tryz.prog S1 (Instr.loadAt 29 t8) fun t17 =>
  C Tryz.prog N.types_fault #[.string ⟨#[98, 121, 116, 101, 115]⟩, .int .i64 3] w.drew fun t18 w =>
  S1 w ∧
  o0 Tryz.prog (Instr.storeAt 29 t4 t17) w fun _ w =>
  S1 w ∧
  mv t18 fun t5_1 =>
  rc Tryz.prog 29 t4 w fun r0 =>
  k (.tuple #[r0, t5_1]) w) (fun _ =>
  o1 Tryz.prog (Instr.loadAt 29 t7) w fun t19 w =>
  o0 Tryz.prog (Instr.storeAt 29 t4 t19) w fun _ w =>
  mv .nilIface fun t5_2 =>
  rc Tryz.prog 29 t4 w fun r0 =>
  k (.tuple #[r0, t5_2]) w)
theorem C.types_decode_api_Commit {k : Value → World → Prop} {a0 a1 : Value} {w : World} (h : F.types_decode_api_Commit k a0 a1 w) : C Tryz.prog N.types_decode_api_Commit #[a0, a1] w k :=
  den_calls (H := { moves := [(5, (.take 0 (.force 1 (.force 2 (.take 3 .fin)))))], vars := [5, 6] }) (args := [a0, a1]) mixed Tryz.func78 (by kernel_rfl) (by kernel_rfl) (by kernel_rfl) h

-- isthmus/types.getCommit
def F.types_getCommit (k : Value → World → Prop) (a0 : Value) (w : World) : Prop :=
  o1 Tryz.prog (Instr.alloc 29 true (.tuple #[])) w fun t2 w =>
  mv a0 fun t4 =>
  C Tryz.prog N.pack_Reader_Int #[t4] w fun t5 w =>
  mv a0 fun t6 =>
  C Tryz.prog N.pack_Reader_Int #[t6] w fun t7 w =>
  mv a0 fun t8 =>
  C Tryz.prog N.pack_Reader_Hash #[t8] w fun t9 w =>
  o1 Tryz.prog (Instr.build 29 #[(0, t5), (1, t7), (2, t9)]) w fun t10 w =>
  o1 Tryz.prog (Instr.alloc 29 true (.tuple #[])) w fun t3 w =>
  o0 Tryz.prog (Instr.storeAt 29 t3 t10) w fun _ w =>
  mv a0 fun t11 =>
  C Tryz.prog N.pack_Reader_Count #[t11, .int .i64 32] w fun t12 w =>
  mv (.int .i64 0) fun t13 =>
  lp [t13] w fun I1 μ1 => ∀ (x1 : Env) (w1 : World), I1 [x1 13] w1 →
  o1 Tryz.prog (bin .lss 3 (.tmp 13) (.tmp 12) (x1 13) t12) w1 fun t14 w =>
  br t14 (fun _ =>
  dr w.drew fun S1 =>
  tk Tryz.prog S1 (Instr.fieldAt 29 t3 3) fun t15 =>
  tk Tryz.prog S1 (Instr.loadAt 27 t15) fun t16 =>
  mv a0 fun t17 =>
  C Tryz.prog N.types_getVote #[t17] w.drew fun t18 w =>
  S1 w ∧
  o1 Tryz.prog (Instr.buildSlice 27 1 #[(0, t18)]) w fun t19 w =>
  S1 w ∧
  ob Tryz.prog (fun _ => Builtin.append_ #[27, 27] 27 #[t16, t19]) w fun t20 w =>
  S1 w ∧
  tk Tryz.prog S1 (Instr.fieldAt 29 t3 3) fun t21 =>
  o0 Tryz.prog (Instr.storeAt 27 t21 t20) w fun _ w =>
  o1 Tryz.prog (bin .add 3 (.tmp 13) (.const (.int .i64 1)) (x1 13) (.int .i64 1)) w fun t22 w =>
  mv t22 fun t13_1 =>
  I1 [t13_1] w ∧ μ1 [t13_1] w < μ1 [x1 13] w1) (fun _ =>
  o1 Tryz.prog (Instr.loadAt 29 t3) w fun t23 w =>
  o0 Tryz.prog (Instr.storeAt 29 t2 t23) w fun _ w =>
  rc Tryz.prog 29 t2 w fun r0 =>
  k r0 w)
theorem C.types_getCommit {k : Value → World → Prop} {a0 : Value} {w : World} (h : F.types_getCommit k a0 w) : C Tryz.prog N.types_getCommit #[a0] w k :=
  den_calls (H := { moves := [(4, (.take 0 (.take 1 (.take 2 (.force 3 (.force 4 (.force 5 (.take 6 (.last 7)))))))))], vars := [13] }) (args := [a0]) mixed Tryz.func79 (by kernel_rfl) (by kernel_rfl) (by kernel_rfl) h

-- isthmus/isthmusref11.ReadCommit
def F.isthmusref11_ReadCommit (k : Value → World → Prop) (a0 : Value) (w : World) : Prop :=
  o1 Tryz.prog (Instr.box 119 a0) w fun t1 w =>
  o1 Tryz.prog (Instr.alloc 119 true (.tuple #[])) w fun t2 w =>
  o1 Tryz.prog (Instr.alloc 29 true (.tuple #[])) w fun t3 w =>
  o1 Tryz.prog (Instr.build 29 #[]) w fun t8 w =>
  o1 Tryz.prog (Instr.alloc 29 true (.tuple #[])) w fun t4 w =>
  o0 Tryz.prog (Instr.storeAt 29 t4 t8) w fun _ w =>
  o1 Tryz.prog (Instr.loadAt 119 t1) w fun t10 w =>
  C Tryz.prog N.isthmusref02_ReadInt #[t10] w fun t11 w =>
  mv t11 fun t9 =>
  o1 Tryz.prog (Instr.extract t9 0) w fun t12 w =>
  o1 Tryz.prog (Instr.extract t9 1) w fun t13 w =>
  o0 Tryz.prog (Instr.storeAt 119 t1 t12) w fun _ w =>
  o1 Tryz.prog (Instr.fieldAt 29 t4 0) w fun t14 w =>
  o0 Tryz.prog (Instr.storeAt 3 t14 t13) w fun _ w =>
  o1 Tryz.prog (Instr.loadAt 119 t1) w fun t16 w =>
  C Tryz.prog N.isthmusref02_ReadInt #[t16] w fun t17 w =>
  mv t17 fun t15 =>
  o1 Tryz.prog (Instr.extract t15 0) w fun t18 w =>
  o1 Tryz.prog (Instr.extract t15 1) w fun t19 w =>
  o0 Tryz.prog (Instr.storeAt 119 t1 t18) w fun _ w =>
  o1 Tryz.prog (Instr.fieldAt 29 t4 1) w fun t20 w =>
  o0 Tryz.prog (Instr.storeAt 3 t20 t19) w fun _ w =>
  o1 Tryz.prog (Instr.loadAt 119 t1) w fun t22 w =>
  C Tryz.prog N.isthmusref02_ReadHash #[t22] w fun t23 w =>
  mv t23 fun t21 =>
  o1 Tryz.prog (Instr.extract t21 0) w fun t24 w =>
  o1 Tryz.prog (Instr.extract t21 1) w fun t25 w =>
  o0 Tryz.prog (Instr.storeAt 119 t1 t24) w fun _ w =>
  o1 Tryz.prog (Instr.fieldAt 29 t4 2) w fun t26 w =>
  o0 Tryz.prog (Instr.storeAt 23 t26 t25) w fun _ w =>
  o1 Tryz.prog (Instr.loadAt 119 t1) w fun t28 w =>
  C Tryz.prog N.isthmusref02_ReadCount #[t28, .int .i64 32] w fun t29 w =>
  mv t29 fun t27 =>
  o1 Tryz.prog (Instr.extract t27 0) w fun t30 w =>
  o1 Tryz.prog (Instr.extract t27 1) w fun t31 w =>
  o0 Tryz.prog (Instr.storeAt 119 t1 t30) w fun _ w =>
  mv t31 fun t5 =>
  mv (.int .i64 0) fun t6 =>
  lp [t6] w fun I1 μ1 => ∀ (x1 : Env) (w1 : World), I1 [x1 6] w1 →
  mv (x1 6) fun t32 =>
  mv t5 fun t33 =>
  o1 Tryz.prog (bin .lss 3 (.tmp 32) (.tmp 33) t32 t33) w1 fun t34 w =>
  br t34 (fun _ =>
  o1 Tryz.prog (Instr.build 49 #[]) w fun t37 w =>
  o1 Tryz.prog (Instr.alloc 49 true (.tuple #[])) w fun t7 w =>
  o0 Tryz.prog (Instr.storeAt 49 t7 t37) w fun _ w =>
  o1 Tryz.prog (Instr.loadAt 119 t1) w fun t39 w =>
  C Tryz.prog N.isthmusref11_ReadVote #[t39] w fun t40 w =>
  mv t40 fun t38 =>
  o1 Tryz.prog (Instr.extract t38 0) w fun t41 w =>
  o1 Tryz.prog (Instr.extract t38 1) w fun t42 w =>
  o0 Tryz.prog (Instr.storeAt 119 t1 t41) w fun _ w =>
  o0 Tryz.prog (Instr.storeAt 49 t7 t42) w fun _ w =>
  o1 Tryz.prog (Instr.fieldAt 29 t4 3) w fun t43 w =>
  o1 Tryz.prog (Instr.loadAt 27 t43) w fun t44 w =>
  o1 Tryz.prog (Instr.loadAt 49 t7) w fun t45 w =>
  o1 Tryz.prog (Instr.buildSlice 27 1 #[(0, t45)]) w fun t46 w =>
  ob Tryz.prog (fun _ => Builtin.append_ #[27, 27] 27 #[t44, t46]) w fun t47 w =>
  o1 Tryz.prog (Instr.fieldAt 29 t4 3) w fun t48 w =>
  o0 Tryz.prog (Instr.storeAt 27 t48 t47) w fun _ w =>
  mv (x1 6) fun t35 =>
  o1 Tryz.prog (bin .add 3 (.tmp 35) (.const (.int .i64 1)) t35 (.int .i64 1)) w fun t36 w =>
  mv t36 fun t6_1 =>
  I1 [t6_1] w ∧ μ1 [t6_1] w < μ1 [x1 6] w1) (fun _ =>
  dr w.drew fun S1 =>
  tk Tryz.prog S1 (Instr.loadAt 119 t1) fun t49 =>
  tk Tryz.prog S1 (Instr.loadAt 29 t4) fun t50 =>
  o0 Tryz.prog (Instr.storeAt 119 t2 t49) w.drew fun _ w =>
  S1 w ∧
  o0 Tryz.prog (Instr.storeAt 29 t3 t50) w fun _ w =>
  rc Tryz.prog 119 t2 w fun r0 =>
  rc Tryz.prog 29 t3 w fun r1 =>
  k (.tuple #[r0, r1]) w)
theorem C.isthmusref11_ReadCommit {k : Value → World → Prop} {a0 : Value} {w : World} (h : F.isthmusref11_ReadCommit k a0 w) : C Tryz.prog N.isthmusref11_ReadCommit #[a0] w k :=
  den_calls (H := { moves := [(12, (.take 0 (.take 1 (.force 2 (.last 3)))))], vars := [5, 6] }) (args := [a0]) mixed Tryz.func80 (by kernel_rfl) (by kernel_rfl) (by kernel_rfl) h

end Go.Proofs.YtlfelmikcdmkhaaGreatDoor
