/- What each function asks: printed by hoas.py off the loaded program; each is held against the program by the kernel. -/
import Derived.Test.YtlfelmikcdmkhaaGreatDoorN
set_option linter.unusedVariables false
set_option linter.unusedSimpArgs false
set_option linter.unusedSectionVars false
namespace Go.Proofs.YtlfelmikcdmkhaaGreatDoor
open Go Go.Isk
set_option maxRecDepth 100000
-- gosem.cut.init
-- isthmus/isthmuslaw11.TypesBlocks
-- isthmus/isthmuslaw11.TypesReads
-- isthmus/isthmuslaw11.TypesSets
def F.isthmuslaw11_TypesSets (k : Value → World → Prop) (a0 a1 : Value) (w : World) : Prop :=
  mv (.bool false) fun t4 =>
  mv (.slice none 0 0) fun t5 =>
  mv t5 fun t11 =>
  mv a0 fun t12 =>
  ob Tryz.prog (fun _ => Builtin.append_ #[70, 70] 70 #[t11, t12]) w fun t13 w =>
  mv t13 fun t5_1 =>
  mv a1 fun t15 =>
  C Tryz.prog N.types_DecodeSet #[t15] w fun t16 w =>
  mv t16 fun t14 =>
  o1 Tryz.prog (Instr.extract t14 0) w fun t17 w =>
  o1 Tryz.prog (Instr.extract t14 1) w fun t18 w =>
  mv t17 fun t6 =>
  mv t18 fun t7 =>
  mv a1 fun t20 =>
  C Tryz.prog N.isthmusref11_DecodeSet #[t20] w fun t21 w =>
  mv t21 fun t19 =>
  o1 Tryz.prog (Instr.extract t19 0) w fun t22 w =>
  o1 Tryz.prog (Instr.extract t19 1) w fun t23 w =>
  mv t22 fun t8 =>
  mv t23 fun t9 =>
  mv t7 fun t24 =>
  C Tryz.prog N.isthmuslaw11_num #[t24] w fun t25 w =>
  mv t9 fun t26 =>
  o1 Tryz.prog (bin .neq 3 (.tmp 25) (.tmp 26) t25 t26) w fun t27 w =>
  mv t27 fun t28 =>
  gd t28 false (fun k1 => mv t6 fun v => k1 v w) w fun t29 w =>
  gd t28 false (fun k2 => o1 Tryz.prog (Builtin.len_ #[70] 3 #[t29]) w k2) w fun t30 w =>
  gd t28 false (fun k3 => mv t8 fun v => k3 v w) w fun t31 w =>
  gd t28 false (fun k4 => o1 Tryz.prog (Builtin.len_ #[70] 3 #[t31]) w k4) w fun t32 w =>
  gd t28 false (fun k5 => o1 Tryz.prog (bin .neq 3 (.tmp 30) (.tmp 32) t30 t32) w k5) w fun t33 w =>
  pk t28 (.bool true) t33 fun t34 =>
  br t34 (fun _ =>
  mv (.bool false) fun t4_1 =>
  k t4_1 w) (fun _ =>
  mv (.int .i64 0) fun t10 =>
  lp [t4, t10] w fun I1 μ1 => ∀ (x1 : Env) (w1 : World), I1 [x1 4, x1 10] w1 →
  mv (x1 10) fun t35 =>
  mv t6 fun t36 =>
  o1 Tryz.prog (Builtin.len_ #[70] 3 #[t36]) w1 fun t37 w =>
  o1 Tryz.prog (bin .lss 3 (.tmp 35) (.tmp 37) t35 t37) w fun t38 w =>
  br t38 (fun _ =>
  mv t6 fun t41 =>
  mv (x1 10) fun t42 =>
  tk Tryz.prog (fun w' => w' = w.drew) (Instr.indexAt 70 t41 t42) fun t43 =>
  tk Tryz.prog (fun w' => w' = w.drew) (Instr.loadAt 76 t43) fun t44 =>
  mv t8 fun t45 =>
  mv (x1 10) fun t46 =>
  tk Tryz.prog (fun w' => w' = w.drew) (Instr.indexAt 70 t45 t46) fun t47 =>
  tk Tryz.prog (fun w' => w' = w.drew) (Instr.loadAt 76 t47) fun t48 =>
  tk Tryz.prog (fun w' => w' = w.drew) (bin .neq 76 (.tmp 44) (.tmp 48) t44 t48) fun t49 =>
  br t49 (fun _ =>
  mv (.bool false) fun t4_2 =>
  k t4_2 w.drew) (fun _ =>
  mv (x1 10) fun t39 =>
  o1 Tryz.prog (bin .add 3 (.tmp 39) (.const (.int .i64 1)) t39 (.int .i64 1)) w.drew fun t40 w =>
  mv t40 fun t10_1 =>
  I1 [(x1 4), t10_1] w ∧ μ1 [(x1 4), t10_1] w < μ1 [x1 4, x1 10] w1)) (fun _ =>
  dr w.drew fun S1 =>
  mv t5_1 fun t50 =>
  mv a0 fun t53 =>
  C Tryz.prog N.types_CheckSet #[t50] w.drew fun t51 w =>
  S1 w ∧
  C Tryz.prog N.isthmuslaw11_num #[t51] w fun t52 w =>
  S1 w ∧
  C Tryz.prog N.isthmusref11_CheckSet #[t53] w fun t54 w =>
  S1 w ∧
  tk Tryz.prog S1 (bin .eql 3 (.tmp 52) (.tmp 54) t52 t54) fun t55 =>
  mv t55 fun t56 =>
  gdT t56 true (fun k6 => mv t5_1 k6) fun t57 =>
  gdT t56 true (fun k7 => mv a0 k7) fun t59 =>
  gd t56 true (fun k8 => C Tryz.prog N.types_Total #[t57] w k8) w fun t58 w =>
  S1 w ∧
  gd t56 true (fun k9 => C Tryz.prog N.isthmusref11_Total #[t59] w k9) w fun t60 w =>
  S1 w ∧
  gdT t56 true (fun k10 => tk Tryz.prog S1 (bin .eql 3 (.tmp 58) (.tmp 60) t58 t60) k10) fun t61 =>
  pk t56 t61 (.bool false) fun t62 =>
  mv t62 fun t63 =>
  gdT t63 true (fun k11 => mv t5_1 k11) fun t64 =>
  gdT t63 true (fun k12 => mv a0 k12) fun t66 =>
  gd t63 true (fun k13 => C Tryz.prog N.types_SetHash #[t64] w k13) w fun t65 w =>
  S1 w ∧
  gd t63 true (fun k14 => C Tryz.prog N.isthmusref11_SetHash #[t66] w k14) w fun t67 w =>
  S1 w ∧
  gdT t63 true (fun k15 => tk Tryz.prog S1 (bin .eql 23 (.tmp 65) (.tmp 67) t65 t67) k15) fun t68 =>
  pk t63 t68 (.bool false) fun t69 =>
  mv t69 fun t70 =>
  gdT t70 true (fun k16 => mv t5_1 k16) fun t71 =>
  gdT t70 true (fun k17 => mv a0 k17) fun t74 =>
  gd t70 true (fun k18 => C Tryz.prog N.types_EncodeSet #[t71] w k18) w fun t72 w =>
  S1 w ∧
  nS S1 w fun S2 =>
  gdT t70 true (fun k19 => tk Tryz.prog S2 (convert 39 9 t72) k19) fun t73 =>
  gd t70 true (fun k20 => C Tryz.prog N.isthmusref11_Set #[t74] w k20) w fun t75 w =>
  S2 w ∧
  nS S2 w fun S3 =>
  gdT t70 true (fun k21 => tk Tryz.prog S3 (convert 39 9 t75) k21) fun t76 =>
  gdT t70 true (fun k22 => tk Tryz.prog S3 (bin .eql 9 (.tmp 73) (.tmp 76) t73 t76) k22) fun t77 =>
  pk t70 t77 (.bool false) fun t78 =>
  mv t78 fun t79 =>
  gd t79 true (fun k23 => C Tryz.prog N.isthmuslaw11_sure #[] w k23) w fun t80 w =>
  S3 w ∧
  pk t79 t80 (.bool false) fun t81 =>
  mv t81 fun t4_3 =>
  k t4_3 w))
theorem C.isthmuslaw11_TypesSets {k : Value → World → Prop} {a0 a1 : Value} {w : World} (h : F.isthmuslaw11_TypesSets k a0 a1 w) : C Tryz.prog N.isthmuslaw11_TypesSets #[a0, a1] w k :=
  den_calls (H := { moves := [(10, (.take 0 (.take 1 (.take 2 (.take 3 (.take 4 (.take 5 (.take 6 (.take 7 (.take 8 .fin)))))))))), (12, (.take 0 (.take 3 (.force 1 (.force 2 (.force 4 (.take 5 (.take 6 (.take 7 (.take 9 (.force 8 (.force 10 (.take 11 (.take 12 (.take 13 (.take 14 (.take 16 (.force 15 (.force 17 (.take 18 (.take 19 (.take 20 (.take 21 (.take 24 (.force 22 (.renew (.take 23 (.force 25 (.renew (.take 26 (.take 27 (.take 28 (.take 29 (.force 30 (.take 31 (.take 32 .fin))))))))))))))))))))))))))))))))))))], vars := [4, 5, 6, 7, 8, 9, 10] }) (args := [a0, a1]) mixed Tryz.func5 (by kernel_rfl) (by kernel_rfl) (by kernel_rfl) h

-- isthmus/isthmuslaw11.TypesVotes
-- isthmus/isthmuslaw11.num
def F.isthmuslaw11_num (k : Value → World → Prop) (a0 : Value) (w : World) : Prop :=
  mv (.int .i64 0) fun t2 =>
  o1 Tryz.prog (Instr.alloc 93 true (.tuple #[])) w fun t3 w =>
  mv a0 fun t4 =>
  o1 Tryz.prog (bin .eql 34 (.tmp 4) (.const .nilIface) t4 .nilIface) w fun t5 w =>
  br t5 (fun _ =>
  mv (.int .i64 0) fun t2_1 =>
  k t2_1 w) (fun _ =>
  mv a0 fun t6 =>
  o1 Tryz.prog (Instr.makeInterface 95 t3) w fun t7 w =>
  C Tryz.prog N.errors_As #[t6, t7] w fun t8 w =>
  br t8 (fun _ =>
  o1 Tryz.prog (Instr.loadAt 93 t3) w fun t9 w =>
  mv t9 fun t2_2 =>
  k t2_2 w) (fun _ =>
  mv (.int .i64 (-1)) fun t2_3 =>
  k t2_3 w))
theorem C.isthmuslaw11_num {k : Value → World → Prop} {a0 : Value} {w : World} (h : F.isthmuslaw11_num k a0 w) : C Tryz.prog N.isthmuslaw11_num #[a0] w k :=
  den_calls (H := { moves := [], vars := [2] }) (args := [a0]) mixed Tryz.func7 (by kernel_rfl) (by kernel_rfl) (by kernel_rfl) h

-- isthmus/types.CheckBlock
-- isthmus/isthmusref11.CheckBlock
-- isthmus/types.TxsHash
-- isthmus/isthmusref11.TxsHash
-- isthmus/types.HeaderHash
-- isthmus/isthmusref11.HeaderHash
-- isthmus/types.EncodeBlock
-- isthmus/isthmusref11.Block
-- isthmus/types.EncodeHeader
-- isthmus/isthmusref11.Header
-- isthmus/types.EncodeCommit
-- isthmus/isthmusref11.Commit
-- isthmus/isthmuslaw11.sure
def F.isthmuslaw11_sure (k : Value → World → Prop) (w : World) : Prop :=
  mv (.bool false) fun t0 =>
  o1 Tryz.prog (Instr.build 76 #[(0, .string ⟨#[97]⟩), (2, .int .i64 3)]) w fun t2 w =>
  o1 Tryz.prog (Instr.build 76 #[(0, .string ⟨#[98]⟩), (2, .int .i64 1)]) w fun t3 w =>
  o1 Tryz.prog (Instr.buildSlice 70 2 #[(0, t2), (1, t3)]) w fun t4 w =>
  mv t4 fun t1 =>
  mv t1 fun t5 =>
  C Tryz.prog N.types_CheckSet #[t5] w fun t6 w =>
  o1 Tryz.prog (bin .eql 34 (.tmp 6) (.const .nilIface) t6 .nilIface) w fun t7 w =>
  mv t7 fun t8 =>
  gd t8 true (fun k1 => mv t1 fun v => k1 v w) w fun t9 w =>
  gd t8 true (fun k2 => C Tryz.prog N.types_Total #[t9] w k2) w fun t10 w =>
  gd t8 true (fun k3 => o1 Tryz.prog (bin .eql 3 (.tmp 10) (.const (.int .i64 4)) t10 (.int .i64 4)) w k3) w fun t11 w =>
  pk t8 t11 (.bool false) fun t12 =>
  mv t12 fun t13 =>
  gd t13 true (fun k4 => mv t1 fun v => k4 v w) w fun t14 w =>
  gd t13 true (fun k5 => mv t1 fun v => k5 v w) w fun t15 w =>
  gd t13 true (fun k6 => o1 Tryz.prog (Instr.build 49 #[(4, .int .i64 1)]) w k6) w fun t16 w =>
  gd t13 true (fun k7 => o1 Tryz.prog (Instr.buildSlice 27 1 #[(0, t16)]) w k7) w fun t17 w =>
  gd t13 true (fun k8 => o1 Tryz.prog (Instr.build 29 #[(3, t17)]) w k8) w fun t18 w =>
  gd t13 true (fun k9 => C Tryz.prog N.types_VerifyTrust #[t14, t15, t18] w k9) w fun t19 w =>
  gd t13 true (fun k10 => C Tryz.prog N.isthmuslaw11_num #[t19] w k10) w fun t20 w =>
  gd t13 true (fun k11 => o1 Tryz.prog (bin .eql 3 (.tmp 20) (.const (.int .i64 32)) t20 (.int .i64 32)) w k11) w fun t21 w =>
  pk t13 t21 (.bool false) fun t22 =>
  mv t22 fun t23 =>
  gd t23 true (fun k12 => mv t1 fun v => k12 v w) w fun t24 w =>
  gd t23 true (fun k13 => mv t1 fun v => k13 v w) w fun t25 w =>
  gd t23 true (fun k14 => o1 Tryz.prog (Instr.build 49 #[(4, .int .i64 0)]) w k14) w fun t26 w =>
  gd t23 true (fun k15 => o1 Tryz.prog (Instr.buildSlice 27 1 #[(0, t26)]) w k15) w fun t27 w =>
  gd t23 true (fun k16 => o1 Tryz.prog (Instr.build 29 #[(3, t27)]) w k16) w fun t28 w =>
  gd t23 true (fun k17 => C Tryz.prog N.types_VerifyTrust #[t24, t25, t28] w k17) w fun t29 w =>
  gd t23 true (fun k18 => o1 Tryz.prog (bin .eql 34 (.tmp 29) (.const .nilIface) t29 .nilIface) w k18) w fun t30 w =>
  pk t23 t30 (.bool false) fun t31 =>
  mv t31 fun t0_1 =>
  k t0_1 w
theorem C.isthmuslaw11_sure {k : Value → World → Prop} {w : World} (h : F.isthmuslaw11_sure k  w) : C Tryz.prog N.isthmuslaw11_sure #[] w k :=
  den_calls (H := { moves := [], vars := [0, 1] }) (args := []) mixed Tryz.func20 (by kernel_rfl) (by kernel_rfl) (by kernel_rfl) h

-- isthmus/types.DecodeVote
-- isthmus/isthmusref11.DecodeVote
-- isthmus/types.DecodeCommit
-- isthmus/isthmusref11.DecodeCommit
-- isthmus/types.DecodeHeader
-- isthmus/isthmusref11.DecodeHeader
-- isthmus/types.DecodeBlock
-- isthmus/isthmusref11.DecodeBlock
-- isthmus/isthmuslaw11.votes
-- isthmus/isthmuslaw11.commit
-- isthmus/isthmuslaw11.lists
-- isthmus/types.DecodeSet
def F.types_DecodeSet (k : Value → World → Prop) (a0 : Value) (w : World) : Prop :=
  mv (.slice none 0 0) fun t2 =>
  mv .nilIface fun t3 =>
  mv a0 fun t4 =>
  C Tryz.prog N.types_decode_api_Validator #[t4, .func (.func 89) #[] #[]] w fun t5 w =>
  o1 Tryz.prog (Instr.extract t5 0) w fun t6 w =>
  o1 Tryz.prog (Instr.extract t5 1) w fun t7 w =>
  mv t6 fun t2_1 =>
  mv t7 fun t3_1 =>
  k (.tuple #[t2_1, t3_1]) w
theorem C.types_DecodeSet {k : Value → World → Prop} {a0 : Value} {w : World} (h : F.types_DecodeSet k a0 w) : C Tryz.prog N.types_DecodeSet #[a0] w k :=
  den_calls (H := { moves := [], vars := [2, 3] }) (args := [a0]) mixed Tryz.func32 (by kernel_rfl) (by kernel_rfl) (by kernel_rfl) h

-- isthmus/isthmusref11.DecodeSet
def F.isthmusref11_DecodeSet (k : Value → World → Prop) (a0 : Value) (w : World) : Prop :=
  mv (.slice none 0 0) fun t2 =>
  mv (.int .i64 0) fun t3 =>
  mv a0 fun t7 =>
  o1 Tryz.prog (Instr.build 119 #[(0, t7)]) w fun t8 w =>
  C Tryz.prog N.isthmusref11_ReadSet #[t8] w fun t9 w =>
  mv t9 fun t6 =>
  o1 Tryz.prog (Instr.extract t6 0) w fun t10 w =>
  o1 Tryz.prog (Instr.extract t6 1) w fun t11 w =>
  o1 Tryz.prog (Instr.alloc 119 true (.tuple #[])) w fun t4 w =>
  o0 Tryz.prog (Instr.storeAt 119 t4 t10) w fun _ w =>
  mv t11 fun t5 =>
  o1 Tryz.prog (Instr.loadAt 119 t4) w fun t12 w =>
  C Tryz.prog N.isthmusref02_Done #[t12] w fun t13 w =>
  o1 Tryz.prog (bin .neq 3 (.tmp 13) (.const (.int .i64 0)) t13 (.int .i64 0)) w fun t14 w =>
  br t14 (fun _ =>
  mv (.slice none 0 0) fun t2_1 =>
  mv (.int .i64 3) fun t3_1 =>
  k (.tuple #[t2_1, t3_1]) w) (fun _ =>
  mv t5 fun t15 =>
  mv t15 fun t2_2 =>
  mv (.int .i64 0) fun t3_2 =>
  k (.tuple #[t2_2, t3_2]) w)
theorem C.isthmusref11_DecodeSet {k : Value → World → Prop} {a0 : Value} {w : World} (h : F.isthmusref11_DecodeSet k a0 w) : C Tryz.prog N.isthmusref11_DecodeSet #[a0] w k :=
  den_calls (H := { moves := [], vars := [2, 3, 5] }) (args := [a0]) mixed Tryz.func33 (by kernel_rfl) (by kernel_rfl) (by kernel_rfl) h

-- isthmus/types.CheckSet
def F.types_CheckSet (k : Value → World → Prop) (a0 : Value) (w : World) : Prop :=
  mv .nilIface fun t2 =>
  mv a0 fun t7 =>
  o1 Tryz.prog (Builtin.len_ #[70] 3 #[t7]) w fun t8 w =>
  o1 Tryz.prog (bin .eql 3 (.tmp 8) (.const (.int .i64 0)) t8 (.int .i64 0)) w fun t9 w =>
  mv t9 fun t10 =>
  gd t10 false (fun k1 => mv a0 fun v => k1 v w) w fun t11 w =>
  gd t10 false (fun k2 => o1 Tryz.prog (Builtin.len_ #[70] 3 #[t11]) w k2) w fun t12 w =>
  gd t10 false (fun k3 => o1 Tryz.prog (bin .gtr 3 (.tmp 12) (.const (.int .i64 32)) t12 (.int .i64 32)) w k3) w fun t13 w =>
  pk t10 (.bool true) t13 fun t14 =>
  br t14 (fun _ =>
  C Tryz.prog N.types_fault #[.string ⟨#[115, 101, 116]⟩, .int .i64 30] w fun t15 w =>
  mv t15 fun t2_1 =>
  k t2_1 w) (fun _ =>
  mv (.int .i64 1099511627776) fun t3 =>
  mv a0 fun t16 =>
  o1 Tryz.prog (Builtin.len_ #[70] 3 #[t16]) w fun t17 w =>
  mv (.int .i64 0) fun t18 =>
  lp [t2, t3, undef, undef, t18] w fun I1 μ1 => ∀ (x1 : Env) (w1 : World), I1 [x1 2, x1 3, x1 4, x1 6, x1 18] w1 →
  o1 Tryz.prog (bin .lss 3 (.tmp 18) (.tmp 17) (x1 18) t17) w1 fun t19 w =>
  br t19 (fun _ =>
  mv (x1 18) fun t20 =>
  o1 Tryz.prog (Instr.indexAt 70 t16 (x1 18)) w fun t21 w =>
  o1 Tryz.prog (Instr.loadAt 76 t21) w fun t22 w =>
  o1 Tryz.prog (Instr.alloc 76 true (.tuple #[])) w fun t5 w =>
  mv t20 fun t4 =>
  o0 Tryz.prog (Instr.storeAt 76 t5 t22) w fun _ w =>
  mv a0 fun t23 =>
  mv t4 fun t24 =>
  o1 Tryz.prog (Instr.sliceAt 70 t23 none (some t24) none) w fun t25 w =>
  o1 Tryz.prog (Instr.makeFunc (.func 92) #[] #[t5]) w fun t26 w =>
  C Tryz.prog N.slices_ContainsFunc_api_Validator_api_Validator #[t25, t26] w fun t27 w =>
  mv t27 fun t6 =>
  o1 Tryz.prog (Instr.fieldAt 76 t5 0) w fun t28 w =>
  o1 Tryz.prog (Instr.loadAt 9 t28) w fun t29 w =>
  C Tryz.prog N.types_named #[t29] w fun t30 w =>
  o1 Tryz.prog (Op.unary .not t30) w fun t31 w =>
  mv t31 fun t32 =>
  gd t32 false (fun k4 => mv t6 fun v => k4 v w) w fun t33 w =>
  pk t32 (.bool true) t33 fun t34 =>
  mv t34 fun t35 =>
  gd t35 false (fun k5 => o1 Tryz.prog (Instr.fieldAt 76 t5 2) w k5) w fun t36 w =>
  gd t35 false (fun k6 => o1 Tryz.prog (Instr.loadAt 3 t36) w k6) w fun t37 w =>
  gd t35 false (fun k7 => o1 Tryz.prog (bin .lss 3 (.tmp 37) (.const (.int .i64 1)) t37 (.int .i64 1)) w k7) w fun t38 w =>
  pk t35 (.bool true) t38 fun t39 =>
  mv t39 fun t40 =>
  gd t40 false (fun k8 => o1 Tryz.prog (Instr.fieldAt 76 t5 2) w k8) w fun t41 w =>
  gd t40 false (fun k9 => o1 Tryz.prog (Instr.loadAt 3 t41) w k9) w fun t42 w =>
  gd t40 false (fun k10 => mv (x1 3) fun v => k10 v w) w fun t43 w =>
  gd t40 false (fun k11 => o1 Tryz.prog (bin .gtr 3 (.tmp 42) (.tmp 43) t42 t43) w k11) w fun t44 w =>
  pk t40 (.bool true) t44 fun t45 =>
  br t45 (fun _ =>
  C Tryz.prog N.types_fault #[.string ⟨#[118, 97, 108, 105, 100, 97, 116, 111, 114]⟩, .int .i64 30] w fun t46 w =>
  mv t46 fun t2_2 =>
  k t2_2 w) (fun _ =>
  mv (x1 3) fun t47 =>
  o1 Tryz.prog (Instr.fieldAt 76 t5 2) w fun t48 w =>
  o1 Tryz.prog (Instr.loadAt 3 t48) w fun t49 w =>
  o1 Tryz.prog (bin .sub 3 (.tmp 47) (.tmp 49) t47 t49) w fun t50 w =>
  mv t50 fun t3_1 =>
  o1 Tryz.prog (bin .add 3 (.tmp 18) (.const (.int .i64 1)) (x1 18) (.int .i64 1)) w fun t51 w =>
  mv t51 fun t18_1 =>
  I1 [(x1 2), t3_1, t4, t6, t18_1] w ∧ μ1 [(x1 2), t3_1, t4, t6, t18_1] w < μ1 [x1 2, x1 3, x1 4, x1 6, x1 18] w1)) (fun _ =>
  mv .nilIface fun t2_3 =>
  k t2_3 w))
theorem C.types_CheckSet {k : Value → World → Prop} {a0 : Value} {w : World} (h : F.types_CheckSet k a0 w) : C Tryz.prog N.types_CheckSet #[a0] w k :=
  den_calls (H := { moves := [], vars := [2, 3, 4, 6, 18] }) (args := [a0]) mixed Tryz.func34 (by kernel_rfl) (by kernel_rfl) (by kernel_rfl) h

-- isthmus/isthmusref11.CheckSet
def F.isthmusref11_CheckSet (k : Value → World → Prop) (a0 : Value) (w : World) : Prop :=
  mv (.int .i64 0) fun t2 =>
  mv a0 fun t6 =>
  o1 Tryz.prog (Builtin.len_ #[70] 3 #[t6]) w fun t7 w =>
  o1 Tryz.prog (bin .lss 3 (.tmp 7) (.const (.int .i64 1)) t7 (.int .i64 1)) w fun t8 w =>
  mv t8 fun t9 =>
  gd t9 false (fun k1 => mv a0 fun v => k1 v w) w fun t10 w =>
  gd t9 false (fun k2 => o1 Tryz.prog (Builtin.len_ #[70] 3 #[t10]) w k2) w fun t11 w =>
  gd t9 false (fun k3 => o1 Tryz.prog (bin .gtr 3 (.tmp 11) (.const (.int .i64 32)) t11 (.int .i64 32)) w k3) w fun t12 w =>
  pk t9 (.bool true) t12 fun t13 =>
  br t13 (fun _ =>
  mv (.int .i64 30) fun t2_1 =>
  k t2_1 w) (fun _ =>
  mv (.int .i64 0) fun t3 =>
  mv (.int .i64 0) fun t4 =>
  lp [t2, t3, t4, undef] w fun I1 μ1 => ∀ (x1 : Env) (w1 : World), I1 [x1 2, x1 3, x1 4, x1 5] w1 →
  mv (x1 4) fun t14 =>
  mv a0 fun t15 =>
  o1 Tryz.prog (Builtin.len_ #[70] 3 #[t15]) w1 fun t16 w =>
  o1 Tryz.prog (bin .lss 3 (.tmp 14) (.tmp 16) t14 t16) w fun t17 w =>
  br t17 (fun _ =>
  mv a0 fun t20 =>
  mv (x1 4) fun t21 =>
  o1 Tryz.prog (Instr.indexAt 70 t20 t21) w fun t22 w =>
  o1 Tryz.prog (Instr.fieldAt 76 t22 0) w fun t23 w =>
  o1 Tryz.prog (Instr.loadAt 9 t23) w fun t24 w =>
  C Tryz.prog N.isthmusref11_Named #[t24] w fun t25 w =>
  o1 Tryz.prog (Op.unary .not t25) w fun t26 w =>
  mv t26 fun t27 =>
  gd t27 false (fun k4 => mv a0 fun v => k4 v w) w fun t28 w =>
  gd t27 false (fun k5 => mv (x1 4) fun v => k5 v w) w fun t29 w =>
  gd t27 false (fun k6 => o1 Tryz.prog (Instr.indexAt 70 t28 t29) w k6) w fun t30 w =>
  gd t27 false (fun k7 => o1 Tryz.prog (Instr.fieldAt 76 t30 2) w k7) w fun t31 w =>
  gd t27 false (fun k8 => o1 Tryz.prog (Instr.loadAt 3 t31) w k8) w fun t32 w =>
  gd t27 false (fun k9 => o1 Tryz.prog (bin .lss 3 (.tmp 32) (.const (.int .i64 1)) t32 (.int .i64 1)) w k9) w fun t33 w =>
  pk t27 (.bool true) t33 fun t34 =>
  mv t34 fun t35 =>
  gd t35 false (fun k10 => mv a0 fun v => k10 v w) w fun t36 w =>
  gd t35 false (fun k11 => mv (x1 4) fun v => k11 v w) w fun t37 w =>
  gd t35 false (fun k12 => o1 Tryz.prog (Instr.indexAt 70 t36 t37) w k12) w fun t38 w =>
  gd t35 false (fun k13 => o1 Tryz.prog (Instr.fieldAt 76 t38 2) w k13) w fun t39 w =>
  gd t35 false (fun k14 => o1 Tryz.prog (Instr.loadAt 3 t39) w k14) w fun t40 w =>
  gd t35 false (fun k15 => o1 Tryz.prog (bin .gtr 3 (.tmp 40) (.const (.int .i64 1099511627776)) t40 (.int .i64 1099511627776)) w k15) w fun t41 w =>
  pk t35 (.bool true) t41 fun t42 =>
  br t42 (fun _ =>
  mv (.int .i64 30) fun t2_2 =>
  k t2_2 w) (fun _ =>
  mv (.int .i64 0) fun t5 =>
  lp [(x1 2), t5] w fun I2 μ2 => ∀ (x2 : Env) (w2 : World), I2 [x2 2, x2 5] w2 →
  mv (x2 5) fun t43 =>
  mv (x1 4) fun t44 =>
  o1 Tryz.prog (bin .lss 3 (.tmp 43) (.tmp 44) t43 t44) w2 fun t45 w =>
  br t45 (fun _ =>
  mv a0 fun t48 =>
  mv (x2 5) fun t49 =>
  tk Tryz.prog (fun w' => w' = w.drew) (Instr.indexAt 70 t48 t49) fun t50 =>
  tk Tryz.prog (fun w' => w' = w.drew) (Instr.fieldAt 76 t50 0) fun t51 =>
  tk Tryz.prog (fun w' => w' = w.drew) (Instr.loadAt 9 t51) fun t52 =>
  mv a0 fun t53 =>
  mv (x1 4) fun t54 =>
  tk Tryz.prog (fun w' => w' = w.drew) (Instr.indexAt 70 t53 t54) fun t55 =>
  tk Tryz.prog (fun w' => w' = w.drew) (Instr.fieldAt 76 t55 0) fun t56 =>
  tk Tryz.prog (fun w' => w' = w.drew) (Instr.loadAt 9 t56) fun t57 =>
  tk Tryz.prog (fun w' => w' = w.drew) (bin .eql 9 (.tmp 52) (.tmp 57) t52 t57) fun t58 =>
  br t58 (fun _ =>
  mv (.int .i64 30) fun t2_3 =>
  k t2_3 w.drew) (fun _ =>
  mv (x2 5) fun t46 =>
  o1 Tryz.prog (bin .add 3 (.tmp 46) (.const (.int .i64 1)) t46 (.int .i64 1)) w.drew fun t47 w =>
  mv t47 fun t5_1 =>
  I2 [(x2 2), t5_1] w ∧ μ2 [(x2 2), t5_1] w < μ2 [x2 2, x2 5] w2)) (fun _ =>
  mv (x1 3) fun t59 =>
  mv a0 fun t60 =>
  mv (x1 4) fun t61 =>
  o1 Tryz.prog (Instr.indexAt 70 t60 t61) w fun t62 w =>
  o1 Tryz.prog (Instr.fieldAt 76 t62 2) w fun t63 w =>
  o1 Tryz.prog (Instr.loadAt 3 t63) w fun t64 w =>
  o1 Tryz.prog (bin .add 3 (.tmp 59) (.tmp 64) t59 t64) w fun t65 w =>
  mv t65 fun t3_1 =>
  mv (x1 4) fun t18 =>
  o1 Tryz.prog (bin .add 3 (.tmp 18) (.const (.int .i64 1)) t18 (.int .i64 1)) w fun t19 w =>
  mv t19 fun t4_1 =>
  I1 [(x2 2), t3_1, t4_1, (x2 5)] w ∧ μ1 [(x2 2), t3_1, t4_1, (x2 5)] w < μ1 [x1 2, x1 3, x1 4, x1 5] w1))) (fun _ =>
  mv (x1 3) fun t66 =>
  o1 Tryz.prog (bin .gtr 3 (.tmp 66) (.const (.int .i64 1099511627776)) t66 (.int .i64 1099511627776)) w fun t67 w =>
  br t67 (fun _ =>
  mv (.int .i64 30) fun t2_4 =>
  k t2_4 w) (fun _ =>
  mv (.int .i64 0) fun t2_5 =>
  k t2_5 w)))
theorem C.isthmusref11_CheckSet {k : Value → World → Prop} {a0 : Value} {w : World} (h : F.isthmusref11_CheckSet k a0 w) : C Tryz.prog N.isthmusref11_CheckSet #[a0] w k :=
  den_calls (H := { moves := [(12, (.take 0 (.take 1 (.take 2 (.take 3 (.take 4 (.take 5 (.take 6 (.take 7 (.take 8 (.take 9 (.take 10 .fin))))))))))))], vars := [2, 3, 4, 5] }) (args := [a0]) mixed Tryz.func35 (by kernel_rfl) (by kernel_rfl) (by kernel_rfl) h

end Go.Proofs.YtlfelmikcdmkhaaGreatDoor
