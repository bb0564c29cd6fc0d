/- What each function asks: printed by hoas.py off the loaded program; each is held against the program by the kernel. -/
import Derived.Test.YtlfelmikcdmkhaaDoorN
set_option linter.unusedVariables false
set_option linter.unusedSimpArgs false
set_option linter.unusedSectionVars false
namespace Go.Proofs.YtlfelmikcdmkhaaDoor
open Go Go.Isk
set_option maxRecDepth 100000
-- isthmus/types.getVote
-- isthmus/types.encode[isthmus/api.Vote]
-- isthmus/types.putVote
-- isthmus/isthmusref11.Vote
-- isthmus/types.decode[isthmus/api.Block]
-- isthmus/types.getBlock
-- isthmus/types.encode[isthmus/api.Block]
-- isthmus/types.putBlock
-- isthmus/types.decode[isthmus/api.Header]
-- isthmus/types.getHeader
-- isthmus/types.encode[isthmus/api.Header]
def F.types_encode_api_Header (k : Value → World → Prop) (a0 a1 : Value) (w : World) : Prop :=
  o1 Tryd.prog (Instr.box 25 a0) w fun t2 w =>
  mv (.slice none 0 0) fun t4 =>
  C Tryd.prog N.pack_New #[] w fun t6 w =>
  mv t6 fun t5 =>
  mv a1 fun t7 =>
  mv t5 fun t8 =>
  o1 Tryd.prog (Instr.loadAt 25 t2) w fun t9 w =>
  cv Tryd.prog t7 #[t8, t9] w fun t10 w =>
  mv t5 fun t11 =>
  C Tryd.prog N.pack_Writer_Done #[t11] w fun t12 w =>
  mv t12 fun t4_1 =>
  k t4_1 w
theorem C.types_encode_api_Header {k : Value → World → Prop} {a0 a1 : Value} {w : World} (h : F.types_encode_api_Header k a0 a1 w) : C Tryd.prog N.types_encode_api_Header #[a0, a1] w k :=
  den_calls (H := { moves := [], vars := [4, 5] }) (args := [a0, a1]) mixed Tryd.func33 (by kernel_rfl) (by kernel_rfl) (by kernel_rfl) h

-- isthmus/types.putHeader
def F.types_putHeader (k : Value → World → Prop) (a0 a1 : Value) (w : World) : Prop :=
  o1 Tryd.prog (Instr.box 25 a1) w fun t3 w =>
  dr w.drew fun S1 =>
  mv a0 fun t4 =>
  tk Tryd.prog S1 (Instr.fieldAt 25 t3 0) fun t5 =>
  tk Tryd.prog S1 (Instr.loadAt 9 t5) fun t6 =>
  tk Tryd.prog S1 (Instr.fieldAt 25 t3 1) fun t8 =>
  tk Tryd.prog S1 (Instr.loadAt 3 t8) fun t9 =>
  tk Tryd.prog S1 (Instr.fieldAt 25 t3 2) fun t11 =>
  tk Tryd.prog S1 (Instr.loadAt 3 t11) fun t12 =>
  tk Tryd.prog S1 (Instr.fieldAt 25 t3 3) fun t14 =>
  tk Tryd.prog S1 (Instr.loadAt 23 t14) fun t15 =>
  tk Tryd.prog S1 (Instr.fieldAt 25 t3 4) fun t17 =>
  tk Tryd.prog S1 (Instr.loadAt 23 t17) fun t18 =>
  tk Tryd.prog S1 (Instr.fieldAt 25 t3 5) fun t20 =>
  tk Tryd.prog S1 (Instr.loadAt 23 t20) fun t21 =>
  tk Tryd.prog S1 (Instr.fieldAt 25 t3 6) fun t23 =>
  tk Tryd.prog S1 (Instr.loadAt 23 t23) fun t24 =>
  tk Tryd.prog S1 (Instr.fieldAt 25 t3 7) fun t26 =>
  tk Tryd.prog S1 (Instr.loadAt 23 t26) fun t27 =>
  tk Tryd.prog S1 (Instr.fieldAt 25 t3 8) fun t29 =>
  tk Tryd.prog S1 (Instr.loadAt 3 t29) fun t30 =>
  C Tryd.prog N.pack_Writer_Text #[t4, t6] w.drew fun t7 w =>
  S1 w ∧
  C Tryd.prog N.pack_Writer_Int #[t7, t9] w fun t10 w =>
  S1 w ∧
  C Tryd.prog N.pack_Writer_Int #[t10, t12] w fun t13 w =>
  S1 w ∧
  C Tryd.prog N.pack_Writer_Hash #[t13, t15] w fun t16 w =>
  S1 w ∧
  C Tryd.prog N.pack_Writer_Hash #[t16, t18] w fun t19 w =>
  S1 w ∧
  C Tryd.prog N.pack_Writer_Hash #[t19, t21] w fun t22 w =>
  S1 w ∧
  C Tryd.prog N.pack_Writer_Hash #[t22, t24] w fun t25 w =>
  S1 w ∧
  C Tryd.prog N.pack_Writer_Hash #[t25, t27] w fun t28 w =>
  S1 w ∧
  C Tryd.prog N.pack_Writer_Int #[t28, t30] w fun t31 w =>
  k (.tuple #[]) w
theorem C.types_putHeader {k : Value → World → Prop} {a0 a1 : Value} {w : World} (h : F.types_putHeader k a0 a1 w) : C Tryd.prog N.types_putHeader #[a0, a1] w k :=
  den_calls (H := { moves := [(1, (.take 0 (.take 1 (.take 2 (.take 4 (.take 5 (.take 7 (.take 8 (.take 10 (.take 11 (.take 13 (.take 14 (.take 16 (.take 17 (.take 19 (.take 20 (.take 22 (.take 23 (.take 25 (.take 26 (.force 3 (.force 6 (.force 9 (.force 12 (.force 15 (.force 18 (.force 21 (.force 24 (.last 27)))))))))))))))))))))))))))))], vars := [] }) (args := [a0, a1]) mixed Tryd.func34 (by kernel_rfl) (by kernel_rfl) (by kernel_rfl) h

-- isthmus/types.fault
def F.types_fault (k : Value → World → Prop) (a0 a1 : Value) (w : World) : Prop :=
  mv .nilIface fun t4 =>
  mv a0 fun t5 =>
  mv a1 fun t6 =>
  o1 Tryd.prog (Instr.makeInterface 80 t6) w fun t7 w =>
  o1 Tryd.prog (Instr.build 113 #[(0, t5), (1, t7)]) w fun t8 w =>
  o1 Tryd.prog (Instr.box 113 t8) w fun t9 w =>
  o1 Tryd.prog (Instr.makeInterface 111 t9) w fun t10 w =>
  mv t10 fun t4_1 =>
  k t4_1 w
theorem C.types_fault {k : Value → World → Prop} {a0 a1 : Value} {w : World} (h : F.types_fault k a0 a1 w) : C Tryd.prog N.types_fault #[a0, a1] w k :=
  den_calls (H := { moves := [], vars := [4] }) (args := [a0, a1]) mixed Tryd.func35 (by kernel_rfl) (by kernel_rfl) (by kernel_rfl) h

-- isthmus/types.VerifyVote
def F.types_VerifyVote (k : Value → World → Prop) (a0 a1 a2 a3 : Value) (w : World) : Prop :=
  o1 Tryd.prog (Instr.box 53 a2) w fun t6 w =>
  o1 Tryd.prog (Instr.box 35 a3) w fun t7 w =>
  mv .nilIface fun t8 =>
  o1 Tryd.prog (Instr.fieldAt 35 t7 0) w fun t12 w =>
  o1 Tryd.prog (Instr.loadAt 3 t12) w fun t13 w =>
  o1 Tryd.prog (bin .eql 3 (.tmp 13) (.const (.int .i64 1)) t13 (.int .i64 1)) w fun t14 w =>
  mv t14 fun t15 =>
  gd t15 false (fun k1 => o1 Tryd.prog (Instr.fieldAt 35 t7 0) w k1) w fun t16 w =>
  gd t15 false (fun k2 => o1 Tryd.prog (Instr.loadAt 3 t16) w k2) w fun t17 w =>
  gd t15 false (fun k3 => o1 Tryd.prog (bin .eql 3 (.tmp 17) (.const (.int .i64 2)) t17 (.int .i64 2)) w k3) w fun t18 w =>
  pk t15 (.bool true) t18 fun t19 =>
  mv t19 fun t9 =>
  mv t9 fun t20 =>
  o1 Tryd.prog (Op.unary .not t20) w fun t21 w =>
  mv t21 fun t22 =>
  gd t22 false (fun k4 => o1 Tryd.prog (Instr.fieldAt 35 t7 1) w k4) w fun t23 w =>
  gd t22 false (fun k5 => o1 Tryd.prog (Instr.loadAt 3 t23) w k5) w fun t24 w =>
  gd t22 false (fun k6 => o1 Tryd.prog (bin .lss 3 (.tmp 24) (.const (.int .i64 1)) t24 (.int .i64 1)) w k6) w fun t25 w =>
  pk t22 (.bool true) t25 fun t26 =>
  mv t26 fun t27 =>
  gd t27 false (fun k7 => o1 Tryd.prog (Instr.fieldAt 35 t7 1) w k7) w fun t28 w =>
  gd t27 false (fun k8 => o1 Tryd.prog (Instr.loadAt 3 t28) w k8) w fun t29 w =>
  gd t27 false (fun k9 => o1 Tryd.prog (bin .gtr 3 (.tmp 29) (.const (.int .i64 1099511627776)) t29 (.int .i64 1099511627776)) w k9) w fun t30 w =>
  pk t27 (.bool true) t30 fun t31 =>
  mv t31 fun t32 =>
  gd t32 false (fun k10 => o1 Tryd.prog (Instr.fieldAt 35 t7 2) w k10) w fun t33 w =>
  gd t32 false (fun k11 => o1 Tryd.prog (Instr.loadAt 3 t33) w k11) w fun t34 w =>
  gd t32 false (fun k12 => o1 Tryd.prog (bin .lss 3 (.tmp 34) (.const (.int .i64 0)) t34 (.int .i64 0)) w k12) w fun t35 w =>
  pk t32 (.bool true) t35 fun t36 =>
  mv t36 fun t37 =>
  gd t37 false (fun k13 => o1 Tryd.prog (Instr.fieldAt 35 t7 2) w k13) w fun t38 w =>
  gd t37 false (fun k14 => o1 Tryd.prog (Instr.loadAt 3 t38) w k14) w fun t39 w =>
  gd t37 false (fun k15 => o1 Tryd.prog (bin .gtr 3 (.tmp 39) (.const (.int .i64 1073741824)) t39 (.int .i64 1073741824)) w k15) w fun t40 w =>
  pk t37 (.bool true) t40 fun t41 =>
  mv t41 fun t42 =>
  gd t42 false (fun k16 => o1 Tryd.prog (Instr.fieldAt 35 t7 4) w k16) w fun t43 w =>
  gd t42 false (fun k17 => o1 Tryd.prog (Instr.loadAt 3 t43) w k17) w fun t44 w =>
  gd t42 false (fun k18 => o1 Tryd.prog (bin .lss 3 (.tmp 44) (.const (.int .i64 0)) t44 (.int .i64 0)) w k18) w fun t45 w =>
  pk t42 (.bool true) t45 fun t46 =>
  mv t46 fun t47 =>
  gd t47 false (fun k19 => o1 Tryd.prog (Instr.fieldAt 35 t7 4) w k19) w fun t48 w =>
  gd t47 false (fun k20 => o1 Tryd.prog (Instr.loadAt 3 t48) w k20) w fun t49 w =>
  gd t47 false (fun k21 => mv a1 fun v => k21 v w) w fun t50 w =>
  gd t47 false (fun k22 => o1 Tryd.prog (Builtin.len_ #[51] 3 #[t50]) w k22) w fun t51 w =>
  gd t47 false (fun k23 => o1 Tryd.prog (bin .geq 3 (.tmp 49) (.tmp 51) t49 t51) w k23) w fun t52 w =>
  pk t47 (.bool true) t52 fun t53 =>
  br t53 (fun _ =>
  C Tryd.prog N.types_fault #[.string ⟨#[118, 111, 116, 101]⟩, .int .i64 31] w fun t54 w =>
  mv t54 fun t8_1 =>
  k t8_1 w) (fun _ =>
  o1 Tryd.prog (Instr.loadAt 53 t6) w fun t55 w =>
  C Tryd.prog N.keys_Check #[t55] w fun t56 w =>
  mv t56 fun t10 =>
  mv t10 fun t57 =>
  o1 Tryd.prog (bin .neq 37 (.tmp 57) (.const .nilIface) t57 .nilIface) w fun t58 w =>
  br t58 (fun _ =>
  mv t10 fun t59 =>
  mv t59 fun t8_2 =>
  k t8_2 w) (fun _ =>
  dr w.drew fun S1 =>
  mv a1 fun t60 =>
  tk Tryd.prog S1 (Instr.fieldAt 35 t7 4) fun t61 =>
  tk Tryd.prog S1 (Instr.loadAt 3 t61) fun t62 =>
  tk Tryd.prog S1 (Instr.indexAt 51 t60 t62) fun t63 =>
  tk Tryd.prog S1 (Instr.fieldAt 59 t63 1) fun t64 =>
  tk Tryd.prog S1 (Instr.loadAt 23 t64) fun t65 =>
  tk Tryd.prog S1 (Instr.loadAt 53 t6) fun t66 =>
  mv a0 fun t67 =>
  tk Tryd.prog S1 (Instr.loadAt 35 t7) fun t68 =>
  tk Tryd.prog S1 (Instr.fieldAt 35 t7 5) fun t70 =>
  tk Tryd.prog S1 (Instr.loadAt 33 t70) fun t71 =>
  C Tryd.prog N.types_VoteBytes #[t67, t68] w.drew fun t69 w =>
  S1 w ∧
  C Tryd.prog N.keys_Verify #[t65, t66, t69, t71] w fun t72 w =>
  S1 w ∧
  mv t72 fun t11 =>
  mv t11 fun t73 =>
  o1 Tryd.prog (bin .neq 37 (.tmp 73) (.const .nilIface) t73 .nilIface) w fun t74 w =>
  br t74 (fun _ =>
  C Tryd.prog N.types_fault #[.string ⟨#[118, 111, 116, 101]⟩, .int .i64 21] w fun t75 w =>
  mv t75 fun t8_3 =>
  k t8_3 w) (fun _ =>
  mv .nilIface fun t8_4 =>
  k t8_4 w)))
theorem C.types_VerifyVote {k : Value → World → Prop} {a0 a1 a2 a3 : Value} {w : World} (h : F.types_VerifyVote k a0 a1 a2 a3 w) : C Tryd.prog N.types_VerifyVote #[a0, a1, a2, a3] w k :=
  den_calls (H := { moves := [(7, (.take 0 (.take 1 (.take 2 (.take 3 (.take 4 (.take 5 (.take 6 (.take 7 (.take 8 (.take 10 (.take 11 (.force 9 (.force 12 (.take 13 .fin)))))))))))))))], vars := [8, 9, 10, 11] }) (args := [a0, a1, a2, a3]) mixed Tryd.func36 (by kernel_rfl) (by kernel_rfl) (by kernel_rfl) h

-- isthmus/types.VerifyTrust$1
def F.types_VerifyTrust_1 (k : Value → World → Prop) (a0 a1 a2 : Value) (w : World) : Prop :=
  o1 Tryd.prog (Instr.box 59 a0) w fun t3 w =>
  mv (.bool false) fun t4 =>
  o1 Tryd.prog (Instr.fieldAt 29 a1 3) w fun t5 w =>
  o1 Tryd.prog (Instr.loadAt 27 t5) w fun t6 w =>
  o1 Tryd.prog (Instr.makeFunc (.func 39) #[] #[a2, t3]) w fun t7 w =>
  C Tryd.prog N.slices_ContainsFunc_api_Vote_api_Vote #[t6, t7] w fun t8 w =>
  mv t8 fun t4_1 =>
  k t4_1 w
theorem C.types_VerifyTrust_1 {k : Value → World → Prop} {a0 a1 a2 : Value} {w : World} (h : F.types_VerifyTrust_1 k a0 a1 a2 w) : C Tryd.prog N.types_VerifyTrust_1 #[a0, a1, a2] w k :=
  den_calls (H := { moves := [], vars := [4] }) (args := [a0, a1, a2]) mixed Tryd.func37 (by kernel_rfl) (by kernel_rfl) (by kernel_rfl) h

-- slices.ContainsFunc[[]isthmus/api.Vote,isthmus/api.Vote]
def F.slices_ContainsFunc_api_Vote_api_Vote (k : Value → World → Prop) (a0 a1 : Value) (w : World) : Prop :=
  mv (.bool false) fun t4 =>
  mv a0 fun t5 =>
  mv a1 fun t6 =>
  C Tryd.prog N.slices_IndexFunc_api_Vote_api_Vote #[t5, t6] w fun t7 w =>
  o1 Tryd.prog (bin .geq 3 (.tmp 7) (.const (.int .i64 0)) t7 (.int .i64 0)) w fun t8 w =>
  mv t8 fun t4_1 =>
  k t4_1 w
theorem C.slices_ContainsFunc_api_Vote_api_Vote {k : Value → World → Prop} {a0 a1 : Value} {w : World} (h : F.slices_ContainsFunc_api_Vote_api_Vote k a0 a1 w) : C Tryd.prog N.slices_ContainsFunc_api_Vote_api_Vote #[a0, a1] w k :=
  den_calls (H := { moves := [], vars := [4] }) (args := [a0, a1]) mixed Tryd.func38 (by kernel_rfl) (by kernel_rfl) (by kernel_rfl) h

-- isthmus/types.VerifyTrust$1$1
def F.types_VerifyTrust_1_1 (k : Value → World → Prop) (a0 a1 a2 : Value) (w : World) : Prop :=
  o1 Tryd.prog (Instr.box 35 a0) w fun t3 w =>
  mv (.bool false) fun t4 =>
  tk Tryd.prog (fun w' => w' = w.drew) (Instr.fieldAt 35 t3 4) fun t5 =>
  tk Tryd.prog (fun w' => w' = w.drew) (Instr.loadAt 3 t5) fun t6 =>
  tk Tryd.prog (fun w' => w' = w.drew) (bin .geq 3 (.tmp 6) (.const (.int .i64 0)) t6 (.int .i64 0)) fun t7 =>
  mv t7 fun t8 =>
  gdT t8 true (fun k1 => tk Tryd.prog (fun w' => w' = w.drew) (Instr.fieldAt 35 t3 4) k1) fun t9 =>
  gdT t8 true (fun k2 => tk Tryd.prog (fun w' => w' = w.drew) (Instr.loadAt 3 t9) k2) fun t10 =>
  gdT t8 true (fun k3 => tk Tryd.prog (fun w' => w' = w.drew) (Instr.loadAt 51 a1) k3) fun t11 =>
  gdT t8 true (fun k4 => tk Tryd.prog (fun w' => w' = w.drew) (Builtin.len_ #[51] 3 #[t11]) k4) fun t12 =>
  gdT t8 true (fun k5 => tk Tryd.prog (fun w' => w' = w.drew) (bin .lss 3 (.tmp 10) (.tmp 12) t10 t12) k5) fun t13 =>
  pk t8 t13 (.bool false) fun t14 =>
  mv t14 fun t15 =>
  gdT t15 true (fun k6 => tk Tryd.prog (fun w' => w' = w.drew) (Instr.loadAt 51 a1) k6) fun t16 =>
  gdT t15 true (fun k7 => tk Tryd.prog (fun w' => w' = w.drew) (Instr.fieldAt 35 t3 4) k7) fun t17 =>
  gdT t15 true (fun k8 => tk Tryd.prog (fun w' => w' = w.drew) (Instr.loadAt 3 t17) k8) fun t18 =>
  gdT t15 true (fun k9 => tk Tryd.prog (fun w' => w' = w.drew) (Instr.indexAt 51 t16 t18) k9) fun t19 =>
  gdT t15 true (fun k10 => tk Tryd.prog (fun w' => w' = w.drew) (Instr.fieldAt 59 t19 0) k10) fun t20 =>
  gdT t15 true (fun k11 => tk Tryd.prog (fun w' => w' = w.drew) (Instr.loadAt 9 t20) k11) fun t21 =>
  gdT t15 true (fun k12 => tk Tryd.prog (fun w' => w' = w.drew) (Instr.fieldAt 59 a2 0) k12) fun t22 =>
  gdT t15 true (fun k13 => tk Tryd.prog (fun w' => w' = w.drew) (Instr.loadAt 9 t22) k13) fun t23 =>
  gdT t15 true (fun k14 => tk Tryd.prog (fun w' => w' = w.drew) (bin .eql 9 (.tmp 21) (.tmp 23) t21 t23) k14) fun t24 =>
  pk t15 t24 (.bool false) fun t25 =>
  mv t25 fun t26 =>
  gdT t26 true (fun k15 => tk Tryd.prog (fun w' => w' = w.drew) (Instr.loadAt 51 a1) k15) fun t27 =>
  gdT t26 true (fun k16 => tk Tryd.prog (fun w' => w' = w.drew) (Instr.fieldAt 35 t3 4) k16) fun t28 =>
  gdT t26 true (fun k17 => tk Tryd.prog (fun w' => w' = w.drew) (Instr.loadAt 3 t28) k17) fun t29 =>
  gdT t26 true (fun k18 => tk Tryd.prog (fun w' => w' = w.drew) (Instr.indexAt 51 t27 t29) k18) fun t30 =>
  gdT t26 true (fun k19 => tk Tryd.prog (fun w' => w' = w.drew) (Instr.fieldAt 59 t30 1) k19) fun t31 =>
  gdT t26 true (fun k20 => tk Tryd.prog (fun w' => w' = w.drew) (Instr.loadAt 23 t31) k20) fun t32 =>
  gdT t26 true (fun k21 => tk Tryd.prog (fun w' => w' = w.drew) (Instr.fieldAt 59 a2 1) k21) fun t33 =>
  gdT t26 true (fun k22 => tk Tryd.prog (fun w' => w' = w.drew) (Instr.loadAt 23 t33) k22) fun t34 =>
  gdT t26 true (fun k23 => tk Tryd.prog (fun w' => w' = w.drew) (bin .eql 23 (.tmp 32) (.tmp 34) t32 t34) k23) fun t35 =>
  pk t26 t35 (.bool false) fun t36 =>
  mv t36 fun t4_1 =>
  k t4_1 w.drew
theorem C.types_VerifyTrust_1_1 {k : Value → World → Prop} {a0 a1 a2 : Value} {w : World} (h : F.types_VerifyTrust_1_1 k a0 a1 a2 w) : C Tryd.prog N.types_VerifyTrust_1_1 #[a0, a1, a2] w k :=
  den_calls (H := { moves := [(1, (.take 0 (.take 1 (.take 2 (.take 3 (.take 4 (.take 5 (.take 6 (.take 7 (.take 8 (.take 9 (.take 10 (.take 11 (.take 12 (.take 13 (.take 14 (.take 15 (.take 16 (.take 17 (.take 18 (.take 19 (.take 20 (.take 21 (.take 22 (.take 23 (.take 24 (.take 25 (.take 26 (.take 27 (.take 28 (.take 29 (.take 30 (.take 31 (.take 32 .fin))))))))))))))))))))))))))))))))))], vars := [4] }) (args := [a0, a1, a2]) mixed Tryd.func39 (by kernel_rfl) (by kernel_rfl) (by kernel_rfl) h

-- slices.ContainsFunc[[]isthmus/api.Validator,isthmus/api.Validator]
def F.slices_ContainsFunc_api_Validator_api_Validator (k : Value → World → Prop) (a0 a1 : Value) (w : World) : Prop :=
  mv (.bool false) fun t4 =>
  mv a0 fun t5 =>
  mv a1 fun t6 =>
  C Tryd.prog N.slices_IndexFunc_api_Validator_api_Validator #[t5, t6] w fun t7 w =>
  o1 Tryd.prog (bin .geq 3 (.tmp 7) (.const (.int .i64 0)) t7 (.int .i64 0)) w fun t8 w =>
  mv t8 fun t4_1 =>
  k t4_1 w
theorem C.slices_ContainsFunc_api_Validator_api_Validator {k : Value → World → Prop} {a0 a1 : Value} {w : World} (h : F.slices_ContainsFunc_api_Validator_api_Validator k a0 a1 w) : C Tryd.prog N.slices_ContainsFunc_api_Validator_api_Validator #[a0, a1] w k :=
  den_calls (H := { moves := [], vars := [4] }) (args := [a0, a1]) mixed Tryd.func40 (by kernel_rfl) (by kernel_rfl) (by kernel_rfl) h

-- isthmus/types.CheckSet$1
def F.types_CheckSet_1 (k : Value → World → Prop) (a0 a1 : Value) (w : World) : Prop :=
  o1 Tryd.prog (Instr.box 59 a0) w fun t2 w =>
  mv (.bool false) fun t3 =>
  o1 Tryd.prog (Instr.fieldAt 59 t2 0) w fun t4 w =>
  o1 Tryd.prog (Instr.loadAt 9 t4) w fun t5 w =>
  o1 Tryd.prog (Instr.fieldAt 59 a1 0) w fun t6 w =>
  o1 Tryd.prog (Instr.loadAt 9 t6) w fun t7 w =>
  o1 Tryd.prog (bin .eql 9 (.tmp 5) (.tmp 7) t5 t7) w fun t8 w =>
  mv t8 fun t3_1 =>
  k t3_1 w
theorem C.types_CheckSet_1 {k : Value → World → Prop} {a0 a1 : Value} {w : World} (h : F.types_CheckSet_1 k a0 a1 w) : C Tryd.prog N.types_CheckSet_1 #[a0, a1] w k :=
  den_calls (H := { moves := [], vars := [3] }) (args := [a0, a1]) mixed Tryd.func41 (by kernel_rfl) (by kernel_rfl) (by kernel_rfl) h

-- isthmus/types.named
def F.types_named (k : Value → World → Prop) (a0 : Value) (w : World) : Prop :=
  mv (.bool false) fun t2 =>
  mv a0 fun t3 =>
  o1 Tryd.prog (Builtin.len_ #[9] 3 #[t3]) w fun t4 w =>
  o1 Tryd.prog (bin .geq 3 (.tmp 4) (.const (.int .i64 1)) t4 (.int .i64 1)) w fun t5 w =>
  mv t5 fun t6 =>
  gd t6 true (fun k1 => mv a0 fun v => k1 v w) w fun t7 w =>
  gd t6 true (fun k2 => o1 Tryd.prog (Builtin.len_ #[9] 3 #[t7]) w k2) w fun t8 w =>
  gd t6 true (fun k3 => o1 Tryd.prog (bin .leq 3 (.tmp 8) (.const (.int .i64 64)) t8 (.int .i64 64)) w k3) w fun t9 w =>
  pk t6 t9 (.bool false) fun t10 =>
  mv t10 fun t11 =>
  gd t11 true (fun k4 => mv a0 fun v => k4 v w) w fun t12 w =>
  gd t11 true (fun k5 => o1 Tryd.prog (convert 9 33 t12) w k5) w fun t13 w =>
  gd t11 true (fun k6 => C Tryd.prog N.slices_ContainsFunc_bytes #[t13, .func (.func 69) #[] #[]] w k6) w fun t14 w =>
  gd t11 true (fun k7 => o1 Tryd.prog (Op.unary .not t14) w k7) w fun t15 w =>
  pk t11 t15 (.bool false) fun t16 =>
  mv t16 fun t2_1 =>
  k t2_1 w
theorem C.types_named {k : Value → World → Prop} {a0 : Value} {w : World} (h : F.types_named k a0 w) : C Tryd.prog N.types_named #[a0] w k :=
  den_calls (H := { moves := [], vars := [2] }) (args := [a0]) mixed Tryd.func42 (by kernel_rfl) (by kernel_rfl) (by kernel_rfl) h

-- errors.As
def F.errors_As (k : Value → World → Prop) (a0 a1 : Value) (w : World) : Prop :=
  mv (.bool false) fun t4 =>
  mv a0 fun t8 =>
  o1 Tryd.prog (bin .eql 37 (.tmp 8) (.const .nilIface) t8 .nilIface) w fun t9 w =>
  br t9 (fun _ =>
  mv (.bool false) fun t4_1 =>
  k t4_1 w) (fun _ =>
  mv a1 fun t10 =>
  o1 Tryd.prog (bin .eql 20 (.tmp 10) (.const .nilIface) t10 .nilIface) w fun t11 w =>
  jn (fun x1 => []) (fun k1 =>
  br t11 (fun _ =>
  o1 Tryd.prog (Instr.makeInterface 9 (.string ⟨#[101, 114, 114, 111, 114, 115, 58, 32, 116, 97, 114, 103, 101, 116, 32, 99, 97, 110, 110, 111, 116, 32, 98, 101, 32, 110, 105, 108]⟩)) w fun t12 w =>
  False) (fun _ =>
  k1 [] w)) fun x1 w =>
  mv a1 fun t13 =>
  oN Tryd.prog (callFunc N.internal_reflectlite_ValueOf #[t13]) w fun t14 w =>
  o1 Tryd.prog (Instr.alloc 124 true (.tuple #[])) w fun t5 w =>
  o0 Tryd.prog (Instr.storeAt 124 t5 t14) w fun _ w =>
  o1 Tryd.prog (Instr.loadAt 124 t5) w fun t15 w =>
  oN Tryd.prog (callFunc N.internal_reflectlite_Value_Type #[t15]) w fun t16 w =>
  mv t16 fun t6 =>
  mv t6 fun t17 =>
  iv Tryd.prog t17 "Kind" #[] w fun t18 w =>
  o1 Tryd.prog (bin .neq 129 (.tmp 18) (.const (.int .u8 22)) t18 (.int .u8 22)) w fun t19 w =>
  mv t19 fun t20 =>
  gd t20 false (fun k2 => o1 Tryd.prog (Instr.loadAt 124 t5) w k2) w fun t21 w =>
  gd t20 false (fun k3 => oN Tryd.prog (callFunc N.internal_reflectlite_Value_IsNil #[t21]) w k3) w fun t22 w =>
  pk t20 (.bool true) t22 fun t23 =>
  jn (fun x2 => []) (fun k4 =>
  br t23 (fun _ =>
  o1 Tryd.prog (Instr.makeInterface 9 (.string ⟨#[101, 114, 114, 111, 114, 115, 58, 32, 116, 97, 114, 103, 101, 116, 32, 109, 117, 115, 116, 32, 98, 101, 32, 97, 32, 110, 111, 110, 45, 110, 105, 108, 32, 112, 111, 105, 110, 116, 101, 114]⟩)) w fun t24 w =>
  False) (fun _ =>
  k4 [] w)) fun x2 w =>
  mv t6 fun t25 =>
  iv Tryd.prog t25 "Elem" #[] w fun t26 w =>
  mv t26 fun t7 =>
  mv t7 fun t27 =>
  iv Tryd.prog t27 "Kind" #[] w fun t28 w =>
  o1 Tryd.prog (bin .neq 129 (.tmp 28) (.const (.int .u8 20)) t28 (.int .u8 20)) w fun t29 w =>
  mv t29 fun t30 =>
  gd t30 true (fun k5 => mv t7 fun v => k5 v w) w fun t31 w =>
  gd t30 true (fun k6 => o1 Tryd.prog (Instr.loadAt 127 (.pointer (some ⟨0, 0, none⟩))) w k6) w fun t32 w =>
  gd t30 true (fun k7 => iv Tryd.prog t31 "Implements" #[t32] w k7) w fun t33 w =>
  gd t30 true (fun k8 => o1 Tryd.prog (Op.unary .not t33) w k8) w fun t34 w =>
  pk t30 t34 (.bool false) fun t35 =>
  jn (fun x3 => []) (fun k9 =>
  br t35 (fun _ =>
  o1 Tryd.prog (Instr.makeInterface 9 (.string ⟨#[101, 114, 114, 111, 114, 115, 58, 32, 42, 116, 97, 114, 103, 101, 116, 32, 109, 117, 115, 116, 32, 98, 101, 32, 105, 110, 116, 101, 114, 102, 97, 99, 101, 32, 111, 114, 32, 105, 109, 112, 108, 101, 109, 101, 110, 116, 32, 101, 114, 114, 111, 114]⟩)) w fun t36 w =>
  False) (fun _ =>
  k9 [] w)) fun x3 w =>
  mv a0 fun t37 =>
  mv a1 fun t38 =>
  o1 Tryd.prog (Instr.loadAt 124 t5) w fun t39 w =>
  mv t7 fun t40 =>
  C Tryd.prog N.errors_as #[t37, t38, t39, t40] w fun t41 w =>
  mv t41 fun t4_2 =>
  k t4_2 w)
theorem C.errors_As {k : Value → World → Prop} {a0 a1 : Value} {w : World} (h : F.errors_As k a0 a1 w) : C Tryd.prog N.errors_As #[a0, a1] w k :=
  den_calls (H := { moves := [], vars := [4, 6, 7] }) (args := [a0, a1]) mixed Tryd.func43 (by kernel_rfl) (by kernel_rfl) (by kernel_rfl) h

-- isthmus/pack.Read
def F.pack_Read (k : Value → World → Prop) (a0 : Value) (w : World) : Prop :=
  mv (.pointer none) fun t2 =>
  mv a0 fun t3 =>
  o1 Tryd.prog (Instr.build 134 #[(0, t3)]) w fun t4 w =>
  o1 Tryd.prog (Instr.box 134 t4) w fun t5 w =>
  mv t5 fun t2_1 =>
  k t2_1 w
theorem C.pack_Read {k : Value → World → Prop} {a0 : Value} {w : World} (h : F.pack_Read k a0 w) : C Tryd.prog N.pack_Read #[a0] w k :=
  den_calls (H := { moves := [], vars := [2] }) (args := [a0]) mixed Tryd.func44 (by kernel_rfl) (by kernel_rfl) (by kernel_rfl) h

-- (*isthmus/pack.Reader).Done
def F.pack_Reader_Done (k : Value → World → Prop) (a0 : Value) (w : World) : Prop :=
  mv .nilIface fun t2 =>
  mv a0 fun t3 =>
  C Tryd.prog N.pack_Reader_live #[t3] w fun t4 w =>
  mv t4 fun t5 =>
  gd t5 true (fun k1 => mv a0 fun v => k1 v w) w fun t6 w =>
  gd t5 true (fun k2 => nilOk t6 = true ∧ mv t6 fun v => k2 v w) w fun t7 w =>
  gd t5 true (fun k3 => o1 Tryd.prog (Instr.fieldAt 134 t7 0) w k3) w fun t8 w =>
  gd t5 true (fun k4 => o1 Tryd.prog (Instr.loadAt 33 t8) w k4) w fun t9 w =>
  gd t5 true (fun k5 => o1 Tryd.prog (Builtin.len_ #[33] 3 #[t9]) w k5) w fun t10 w =>
  gd t5 true (fun k6 => o1 Tryd.prog (bin .gtr 3 (.tmp 10) (.const (.int .i64 0)) t10 (.int .i64 0)) w k6) w fun t11 w =>
  pk t5 t11 (.bool false) fun t12 =>
  br t12 (fun _ =>
  o1 Tryd.prog (Instr.makeInterface 80 (.int .i64 3)) w fun t13 w =>
  o1 Tryd.prog (Instr.build 113 #[(0, .string ⟨#[101, 110, 100]⟩), (1, t13)]) w fun t14 w =>
  o1 Tryd.prog (Instr.box 113 t14) w fun t15 w =>
  o1 Tryd.prog (Instr.makeInterface 111 t15) w fun t16 w =>
  mv t16 fun t2_1 =>
  k t2_1 w) (fun _ =>
  mv a0 fun t17 =>
  C Tryd.prog N.pack_Reader_Err #[t17] w fun t18 w =>
  mv t18 fun t2_2 =>
  k t2_2 w)
theorem C.pack_Reader_Done {k : Value → World → Prop} {a0 : Value} {w : World} (h : F.pack_Reader_Done k a0 w) : C Tryd.prog N.pack_Reader_Done #[a0] w k :=
  den_calls (H := { moves := [], vars := [2] }) (args := [a0]) mixed Tryd.func45 (by kernel_rfl) (by kernel_rfl) (by kernel_rfl) h

-- (*isthmus/pack.Reader).Int
-- (*isthmus/pack.Reader).Hash
def F.pack_Reader_Hash (k : Value → World → Prop) (a0 : Value) (w : World) : Prop :=
  o1 Tryd.prog (Instr.alloc 23 true (.tuple #[])) w fun t2 w =>
  o1 Tryd.prog (Instr.alloc 23 true (.tuple #[])) w fun t3 w =>
  dr w.drew fun S1 =>
  tk Tryd.prog S1 (Instr.sliceAt 23 t3 none none none) fun t4 =>
  mv a0 fun t5 =>
  C Tryd.prog N.pack_Reader_take #[t5, .string ⟨#[115, 117, 109]⟩, .int .i64 32] w.drew fun t6 w =>
  S1 w ∧
  ob Tryd.prog (fun _ => Builtin.copy_ #[33, 33] 3 #[t4, t6]) w fun t7 w =>
  o1 Tryd.prog (Instr.loadAt 23 t3) w fun t8 w =>
  o0 Tryd.prog (Instr.storeAt 23 t2 t8) w fun _ w =>
  rc Tryd.prog 23 t2 w fun r0 =>
  k r0 w
theorem C.pack_Reader_Hash {k : Value → World → Prop} {a0 : Value} {w : World} (h : F.pack_Reader_Hash k a0 w) : C Tryd.prog N.pack_Reader_Hash #[a0] w k :=
  den_calls (H := { moves := [(2, (.take 0 (.take 1 (.force 2 (.last 3)))))], vars := [] }) (args := [a0]) mixed Tryd.func47 (by kernel_rfl) (by kernel_rfl) (by kernel_rfl) h

-- (*isthmus/pack.Reader).Bytes
def F.pack_Reader_Bytes (k : Value → World → Prop) (a0 a1 : Value) (w : World) : Prop :=
  mv (.slice none 0 0) fun t4 =>
  mv a1 fun t7 =>
  o1 Tryd.prog (bin .lss 3 (.tmp 7) (.const (.int .i64 0)) t7 (.int .i64 0)) w fun t8 w =>
  jn (fun x1 => []) (fun k1 =>
  br t8 (fun _ =>
  mv a0 fun t9 =>
  C Tryd.prog N.pack_Reader_fail #[t9, .string ⟨#[98, 111, 117, 110, 100]⟩, .int .i64 1] w fun t10 w =>
  k1 [] w) (fun _ =>
  k1 [] w)) fun x1 w =>
  mv a0 fun t11 =>
  C Tryd.prog N.pack_Reader_live #[t11] w fun t12 w =>
  o1 Tryd.prog (Op.unary .not t12) w fun t13 w =>
  br t13 (fun _ =>
  mv (.slice none 0 0) fun t4_1 =>
  k t4_1 w) (fun _ =>
  mv a0 fun t14 =>
  nilOk t14 = true ∧ mv t14 fun t15 =>
  o1 Tryd.prog (Instr.fieldAt 134 t15 0) w fun t16 w =>
  o1 Tryd.prog (Instr.loadAt 33 t16) w fun t17 w =>
  mv t17 fun t5 =>
  mv a0 fun t18 =>
  C Tryd.prog N.pack_Reader_Uint #[t18, .int .u64 18446744073709551615] w fun t19 w =>
  mv t19 fun t6 =>
  mv a0 fun t25 =>
  C Tryd.prog N.pack_Reader_live #[t25] w fun t26 w =>
  o1 Tryd.prog (Op.unary .not t26) w fun t27 w =>
  mv t27 fun t24 =>
  br t24 (fun _ =>
  mv (.slice none 0 0) fun t4_2 =>
  k t4_2 w) (fun _ =>
  mv t6 fun t29 =>
  mv a1 fun t30 =>
  o1 Tryd.prog (convert 3 107 t30) w fun t31 w =>
  o1 Tryd.prog (bin .gtr 107 (.tmp 29) (.tmp 31) t29 t31) w fun t32 w =>
  mv t32 fun t28 =>
  jn (fun x2 => [x2 4, x2 35]) (fun k2 =>
  br t28 (fun _ =>
  mv a0 fun t33 =>
  C Tryd.prog N.pack_Reader_fail #[t33, .string ⟨#[108, 101, 110, 103, 116, 104]⟩, .int .i64 2] w fun t34 w =>
  k2 [t4, undef] w) (fun _ =>
  mv t6 fun t36 =>
  mv a0 fun t37 =>
  nilOk t37 = true ∧ mv t37 fun t38 =>
  o1 Tryd.prog (Instr.fieldAt 134 t38 0) w fun t39 w =>
  o1 Tryd.prog (Instr.loadAt 33 t39) w fun t40 w =>
  o1 Tryd.prog (Builtin.len_ #[33] 3 #[t40]) w fun t41 w =>
  o1 Tryd.prog (convert 3 107 t41) w fun t42 w =>
  o1 Tryd.prog (bin .gtr 107 (.tmp 36) (.tmp 42) t36 t42) w fun t43 w =>
  mv t43 fun t35 =>
  br t35 (fun _ =>
  mv a0 fun t44 =>
  C Tryd.prog N.pack_Reader_fail #[t44, .string ⟨#[98, 121, 116, 101, 115]⟩, .int .i64 12] w fun t45 w =>
  k2 [t4, t35] w) (fun _ =>
  mv a0 fun t20 =>
  mv t6 fun t21 =>
  o1 Tryd.prog (convert 107 3 t21) w fun t22 w =>
  C Tryd.prog N.pack_Reader_take #[t20, .string ⟨#[98, 121, 116, 101, 115]⟩, t22] w fun t23 w =>
  mv t23 fun t4_3 =>
  k t4_3 w))) fun x2 w =>
  mv a0 fun t46 =>
  mv t5 fun t47 =>
  nilOk t46 = true ∧ mv t46 fun t48 =>
  o1 Tryd.prog (Instr.fieldAt 134 t48 0) w fun t49 w =>
  o0 Tryd.prog (Instr.storeAt 33 t49 t47) w fun _ w =>
  mv (.slice none 0 0) fun t4_4 =>
  k t4_4 w))
theorem C.pack_Reader_Bytes {k : Value → World → Prop} {a0 a1 : Value} {w : World} (h : F.pack_Reader_Bytes k a0 a1 w) : C Tryd.prog N.pack_Reader_Bytes #[a0, a1] w k :=
  den_calls (H := { moves := [], vars := [4, 5, 6, 24, 28, 35] }) (args := [a0, a1]) mixed Tryd.func48 (by kernel_rfl) (by kernel_rfl) (by kernel_rfl) h

-- isthmus/pack.New
def F.pack_New (k : Value → World → Prop) (w : World) : Prop :=
  mv (.pointer none) fun t0 =>
  o1 Tryd.prog (Instr.build 140 #[]) w fun t1 w =>
  o1 Tryd.prog (Instr.box 140 t1) w fun t2 w =>
  mv t2 fun t0_1 =>
  k t0_1 w
theorem C.pack_New {k : Value → World → Prop} {w : World} (h : F.pack_New k  w) : C Tryd.prog N.pack_New #[] w k :=
  den_calls (H := { moves := [], vars := [0] }) (args := []) mixed Tryd.func49 (by kernel_rfl) (by kernel_rfl) (by kernel_rfl) h

-- (*isthmus/pack.Writer).Done
def F.pack_Writer_Done (k : Value → World → Prop) (a0 : Value) (w : World) : Prop :=
  mv (.slice none 0 0) fun t2 =>
  mv a0 fun t3 =>
  o1 Tryd.prog (bin .eql 95 (.tmp 3) (.const (.pointer none)) t3 (.pointer none)) w fun t4 w =>
  br t4 (fun _ =>
  mv (.slice none 0 0) fun t2_1 =>
  k t2_1 w) (fun _ =>
  mv a0 fun t5 =>
  nilOk t5 = true ∧ mv t5 fun t6 =>
  o1 Tryd.prog (Instr.fieldAt 140 t6 0) w fun t7 w =>
  o1 Tryd.prog (Instr.loadAt 33 t7) w fun t8 w =>
  ob Tryd.prog (fun _ => Builtin.append_ #[33, 33] 33 #[.slice none 0 0, t8]) w fun t9 w =>
  mv t9 fun t2_2 =>
  k t2_2 w)
theorem C.pack_Writer_Done {k : Value → World → Prop} {a0 : Value} {w : World} (h : F.pack_Writer_Done k a0 w) : C Tryd.prog N.pack_Writer_Done #[a0] w k :=
  den_calls (H := { moves := [], vars := [2] }) (args := [a0]) mixed Tryd.func50 (by kernel_rfl) (by kernel_rfl) (by kernel_rfl) h

-- (*isthmus/pack.Writer).Int
def F.pack_Writer_Int (k : Value → World → Prop) (a0 a1 : Value) (w : World) : Prop :=
  mv (.pointer none) fun t4 =>
  mv a0 fun t5 =>
  mv a1 fun t6 =>
  o1 Tryd.prog (convert 3 107 t6) w fun t7 w =>
  o1 Tryd.prog (bin .shl 107 (.tmp 7) (.const (.int .u64 1)) t7 (.int .u64 1)) w fun t8 w =>
  mv a1 fun t9 =>
  o1 Tryd.prog (bin .shr 3 (.tmp 9) (.const (.int .u64 63)) t9 (.int .u64 63)) w fun t10 w =>
  o1 Tryd.prog (convert 3 107 t10) w fun t11 w =>
  o1 Tryd.prog (bin .xor 107 (.tmp 8) (.tmp 11) t8 t11) w fun t12 w =>
  C Tryd.prog N.pack_Writer_Uint #[t5, t12] w fun t13 w =>
  mv t13 fun t4_1 =>
  k t4_1 w
theorem C.pack_Writer_Int {k : Value → World → Prop} {a0 a1 : Value} {w : World} (h : F.pack_Writer_Int k a0 a1 w) : C Tryd.prog N.pack_Writer_Int #[a0, a1] w k :=
  den_calls (H := { moves := [], vars := [4] }) (args := [a0, a1]) mixed Tryd.func51 (by kernel_rfl) (by kernel_rfl) (by kernel_rfl) h

-- (*isthmus/pack.Writer).Hash
def F.pack_Writer_Hash (k : Value → World → Prop) (a0 a1 : Value) (w : World) : Prop :=
  o1 Tryd.prog (Instr.box 23 a1) w fun t3 w =>
  mv (.pointer none) fun t4 =>
  mv a0 fun t5 =>
  o1 Tryd.prog (Instr.sliceAt 23 t3 none none none) w fun t6 w =>
  C Tryd.prog N.pack_Writer_raw #[t5, t6] w fun t7 w =>
  mv t7 fun t4_1 =>
  k t4_1 w
theorem C.pack_Writer_Hash {k : Value → World → Prop} {a0 a1 : Value} {w : World} (h : F.pack_Writer_Hash k a0 a1 w) : C Tryd.prog N.pack_Writer_Hash #[a0, a1] w k :=
  den_calls (H := { moves := [], vars := [4] }) (args := [a0, a1]) mixed Tryd.func52 (by kernel_rfl) (by kernel_rfl) (by kernel_rfl) h

-- (*isthmus/pack.Writer).Bytes
def F.pack_Writer_Bytes (k : Value → World → Prop) (a0 a1 : Value) (w : World) : Prop :=
  mv (.pointer none) fun t4 =>
  mv a0 fun t5 =>
  mv a1 fun t6 =>
  o1 Tryd.prog (Builtin.len_ #[33] 3 #[t6]) w fun t7 w =>
  o1 Tryd.prog (convert 3 107 t7) w fun t8 w =>
  C Tryd.prog N.pack_Writer_Uint #[t5, t8] w fun t9 w =>
  mv a1 fun t10 =>
  C Tryd.prog N.pack_Writer_raw #[t9, t10] w fun t11 w =>
  mv t11 fun t4_1 =>
  k t4_1 w
theorem C.pack_Writer_Bytes {k : Value → World → Prop} {a0 a1 : Value} {w : World} (h : F.pack_Writer_Bytes k a0 a1 w) : C Tryd.prog N.pack_Writer_Bytes #[a0, a1] w k :=
  den_calls (H := { moves := [], vars := [4] }) (args := [a0, a1]) mixed Tryd.func53 (by kernel_rfl) (by kernel_rfl) (by kernel_rfl) h

-- isthmus/isthmusref02.Hash
-- isthmus/isthmusref02.Int
-- isthmus/isthmusref02.Bytes
-- (*isthmus/pack.Reader).Count
end Go.Proofs.YtlfelmikcdmkhaaDoor
