/- What each function asks: printed by hoas.py off the loaded program; each is held against the program by the kernel. -/
import Derived.Test.YtlfelmikcdmkhaaGreatDoorN
set_option linter.unusedVariables false
set_option linter.unusedSimpArgs false
set_option linter.unusedSectionVars false
namespace Go.Proofs.YtlfelmikcdmkhaaGreatDoor
open Go Go.Isk
set_option maxRecDepth 100000
-- gosem.cut.init
-- isthmus/isthmuslaw11.TypesBlocks
-- isthmus/isthmuslaw11.TypesReads
-- isthmus/isthmuslaw11.TypesSets
-- isthmus/isthmuslaw11.TypesVotes
def F.isthmuslaw11_TypesVotes (k : Value → World → Prop) (a0 a1 a2 : Value) (w : World) : Prop :=
  o1 Tryz.prog (Instr.box 85 a0) w fun t3 w =>
  o1 Tryz.prog (Instr.box 49 a1) w fun t4 w =>
  o1 Tryz.prog (Instr.box 49 a2) w fun t5 w =>
  mv (.bool false) fun t6 =>
  o1 Tryz.prog (Instr.fieldAt 85 t3 2) w fun t8 w =>
  o1 Tryz.prog (Instr.loadAt 83 t8) w fun t9 w =>
  C Tryz.prog N.isthmuslaw11_cut #[t9] w fun t10 w =>
  o1 Tryz.prog (Instr.alloc 83 true (.tuple #[])) w fun t7 w =>
  o0 Tryz.prog (Instr.storeAt 83 t7 t10) w fun _ w =>
  dr w.drew fun S1 =>
  tk Tryz.prog S1 (Instr.fieldAt 85 t3 0) fun t11 =>
  tk Tryz.prog S1 (Instr.loadAt 9 t11) fun t12 =>
  tk Tryz.prog S1 (Instr.fieldAt 85 t3 1) fun t13 =>
  tk Tryz.prog S1 (Instr.loadAt 70 t13) fun t14 =>
  tk Tryz.prog S1 (Instr.loadAt 83 t7) fun t15 =>
  tk Tryz.prog S1 (Instr.loadAt 49 t4) fun t16 =>
  tk Tryz.prog S1 (Instr.fieldAt 85 t3 0) fun t19 =>
  tk Tryz.prog S1 (Instr.loadAt 9 t19) fun t20 =>
  tk Tryz.prog S1 (Instr.fieldAt 85 t3 1) fun t21 =>
  tk Tryz.prog S1 (Instr.loadAt 70 t21) fun t22 =>
  tk Tryz.prog S1 (Instr.loadAt 83 t7) fun t23 =>
  tk Tryz.prog S1 (Instr.loadAt 49 t4) fun t24 =>
  C Tryz.prog N.types_VerifyVote #[t12, t14, t15, t16] w.drew fun t17 w =>
  S1 w ∧
  C Tryz.prog N.isthmuslaw11_num #[t17] w fun t18 w =>
  S1 w ∧
  C Tryz.prog N.isthmusref11_VerifyVote #[t20, t22, t23, t24] w fun t25 w =>
  S1 w ∧
  tk Tryz.prog S1 (bin .eql 3 (.tmp 18) (.tmp 25) t18 t25) fun t26 =>
  mv t26 fun t27 =>
  gdT t27 true (fun k1 => tk Tryz.prog S1 (Instr.fieldAt 85 t3 0) k1) fun t28 =>
  nS S1 w fun S2 =>
  gdT t27 true (fun k2 => tk Tryz.prog S2 (Instr.loadAt 9 t28) k2) fun t29 =>
  gdT t27 true (fun k3 => tk Tryz.prog S2 (Instr.fieldAt 85 t3 1) k3) fun t30 =>
  gdT t27 true (fun k4 => tk Tryz.prog S2 (Instr.loadAt 70 t30) k4) fun t31 =>
  gdT t27 true (fun k5 => tk Tryz.prog S2 (Instr.loadAt 83 t7) k5) fun t32 =>
  gdT t27 true (fun k6 => tk Tryz.prog S2 (Instr.loadAt 49 t4) k6) fun t33 =>
  gdT t27 true (fun k7 => tk Tryz.prog S2 (Instr.loadAt 49 t5) k7) fun t34 =>
  gdT t27 true (fun k8 => tk Tryz.prog S2 (Instr.fieldAt 85 t3 0) k8) fun t37 =>
  gdT t27 true (fun k9 => tk Tryz.prog S2 (Instr.loadAt 9 t37) k9) fun t38 =>
  gdT t27 true (fun k10 => tk Tryz.prog S2 (Instr.fieldAt 85 t3 1) k10) fun t39 =>
  gdT t27 true (fun k11 => tk Tryz.prog S2 (Instr.loadAt 70 t39) k11) fun t40 =>
  gdT t27 true (fun k12 => tk Tryz.prog S2 (Instr.loadAt 83 t7) k12) fun t41 =>
  gdT t27 true (fun k13 => tk Tryz.prog S2 (Instr.loadAt 49 t4) k13) fun t42 =>
  gdT t27 true (fun k14 => tk Tryz.prog S2 (Instr.loadAt 49 t5) k14) fun t43 =>
  gd t27 true (fun k15 => C Tryz.prog N.types_TwoWays #[t29, t31, t32, t33, t34] w k15) w fun t35 w =>
  S2 w ∧
  gd t27 true (fun k16 => C Tryz.prog N.isthmuslaw11_num #[t35] w k16) w fun t36 w =>
  S2 w ∧
  gd t27 true (fun k17 => C Tryz.prog N.isthmusref11_TwoWays #[t38, t40, t41, t42, t43] w k17) w fun t44 w =>
  S2 w ∧
  gdT t27 true (fun k18 => tk Tryz.prog S2 (bin .eql 3 (.tmp 36) (.tmp 44) t36 t44) k18) fun t45 =>
  pk t27 t45 (.bool false) fun t46 =>
  mv t46 fun t47 =>
  gdT t47 true (fun k19 => tk Tryz.prog S2 (Instr.fieldAt 85 t3 0) k19) fun t48 =>
  nS S2 w fun S3 =>
  gdT t47 true (fun k20 => tk Tryz.prog S3 (Instr.loadAt 9 t48) k20) fun t49 =>
  gdT t47 true (fun k21 => tk Tryz.prog S3 (Instr.loadAt 49 t4) k21) fun t50 =>
  gdT t47 true (fun k22 => tk Tryz.prog S3 (Instr.fieldAt 85 t3 0) k22) fun t53 =>
  gdT t47 true (fun k23 => tk Tryz.prog S3 (Instr.loadAt 9 t53) k23) fun t54 =>
  gdT t47 true (fun k24 => tk Tryz.prog S3 (Instr.loadAt 49 t4) k24) fun t55 =>
  gd t47 true (fun k25 => C Tryz.prog N.types_VoteBytes #[t49, t50] w k25) w fun t51 w =>
  S3 w ∧
  nS S3 w fun S4 =>
  gdT t47 true (fun k26 => tk Tryz.prog S4 (convert 39 9 t51) k26) fun t52 =>
  gd t47 true (fun k27 => C Tryz.prog N.isthmusref11_VoteBytes #[t54, t55] w k27) w fun t56 w =>
  S4 w ∧
  nS S4 w fun S5 =>
  gdT t47 true (fun k28 => tk Tryz.prog S5 (convert 39 9 t56) k28) fun t57 =>
  gdT t47 true (fun k29 => tk Tryz.prog S5 (bin .eql 9 (.tmp 52) (.tmp 57) t52 t57) k29) fun t58 =>
  pk t47 t58 (.bool false) fun t59 =>
  mv t59 fun t60 =>
  gd t60 true (fun k30 => C Tryz.prog N.isthmuslaw11_sure #[] w k30) w fun t61 w =>
  S5 w ∧
  pk t60 t61 (.bool false) fun t62 =>
  mv t62 fun t6_1 =>
  k t6_1 w
theorem C.isthmuslaw11_TypesVotes {k : Value → World → Prop} {a0 a1 a2 : Value} {w : World} (h : F.isthmuslaw11_TypesVotes k a0 a1 a2 w) : C Tryz.prog N.isthmuslaw11_TypesVotes #[a0, a1, a2] w k :=
  den_calls (H := { moves := [(2, (.take 0 (.take 1 (.take 2 (.take 3 (.take 4 (.take 5 (.take 8 (.take 9 (.take 10 (.take 11 (.take 12 (.take 13 (.force 6 (.force 7 (.force 14 (.take 15 (.take 16 (.take 17 (.renew (.take 18 (.take 19 (.take 20 (.take 21 (.take 22 (.take 23 (.take 26 (.take 27 (.take 28 (.take 29 (.take 30 (.take 31 (.take 32 (.force 24 (.force 25 (.force 33 (.take 34 (.take 35 (.take 36 (.take 37 (.renew (.take 38 (.take 39 (.take 42 (.take 43 (.take 44 (.force 40 (.renew (.take 41 (.force 45 (.renew (.take 46 (.take 47 (.take 48 (.take 49 (.force 50 (.take 51 (.take 52 .fin))))))))))))))))))))))))))))))))))))))))))))))))))))))))))], vars := [6] }) (args := [a0, a1, a2]) mixed Tryz.func6 (by kernel_rfl) (by kernel_rfl) (by kernel_rfl) h

-- isthmus/isthmuslaw11.num
def F.isthmuslaw11_num (k : Value → World → Prop) (a0 : Value) (w : World) : Prop :=
  mv (.int .i64 0) fun t2 =>
  o1 Tryz.prog (Instr.alloc 93 true (.tuple #[])) w fun t3 w =>
  mv a0 fun t4 =>
  o1 Tryz.prog (bin .eql 34 (.tmp 4) (.const .nilIface) t4 .nilIface) w fun t5 w =>
  br t5 (fun _ =>
  mv (.int .i64 0) fun t2_1 =>
  k t2_1 w) (fun _ =>
  mv a0 fun t6 =>
  o1 Tryz.prog (Instr.makeInterface 95 t3) w fun t7 w =>
  C Tryz.prog N.errors_As #[t6, t7] w fun t8 w =>
  br t8 (fun _ =>
  o1 Tryz.prog (Instr.loadAt 93 t3) w fun t9 w =>
  mv t9 fun t2_2 =>
  k t2_2 w) (fun _ =>
  mv (.int .i64 (-1)) fun t2_3 =>
  k t2_3 w))
theorem C.isthmuslaw11_num {k : Value → World → Prop} {a0 : Value} {w : World} (h : F.isthmuslaw11_num k a0 w) : C Tryz.prog N.isthmuslaw11_num #[a0] w k :=
  den_calls (H := { moves := [], vars := [2] }) (args := [a0]) mixed Tryz.func7 (by kernel_rfl) (by kernel_rfl) (by kernel_rfl) h

-- isthmus/types.CheckBlock
-- isthmus/isthmusref11.CheckBlock
-- isthmus/types.TxsHash
-- isthmus/isthmusref11.TxsHash
-- isthmus/types.HeaderHash
-- isthmus/isthmusref11.HeaderHash
-- isthmus/types.EncodeBlock
-- isthmus/isthmusref11.Block
-- isthmus/types.EncodeHeader
-- isthmus/isthmusref11.Header
-- isthmus/types.EncodeCommit
-- isthmus/isthmusref11.Commit
-- isthmus/isthmuslaw11.sure
def F.isthmuslaw11_sure (k : Value → World → Prop) (w : World) : Prop :=
  mv (.bool false) fun t0 =>
  o1 Tryz.prog (Instr.build 76 #[(0, .string ⟨#[97]⟩), (2, .int .i64 3)]) w fun t2 w =>
  o1 Tryz.prog (Instr.build 76 #[(0, .string ⟨#[98]⟩), (2, .int .i64 1)]) w fun t3 w =>
  o1 Tryz.prog (Instr.buildSlice 70 2 #[(0, t2), (1, t3)]) w fun t4 w =>
  mv t4 fun t1 =>
  mv t1 fun t5 =>
  C Tryz.prog N.types_CheckSet #[t5] w fun t6 w =>
  o1 Tryz.prog (bin .eql 34 (.tmp 6) (.const .nilIface) t6 .nilIface) w fun t7 w =>
  mv t7 fun t8 =>
  gd t8 true (fun k1 => mv t1 fun v => k1 v w) w fun t9 w =>
  gd t8 true (fun k2 => C Tryz.prog N.types_Total #[t9] w k2) w fun t10 w =>
  gd t8 true (fun k3 => o1 Tryz.prog (bin .eql 3 (.tmp 10) (.const (.int .i64 4)) t10 (.int .i64 4)) w k3) w fun t11 w =>
  pk t8 t11 (.bool false) fun t12 =>
  mv t12 fun t13 =>
  gd t13 true (fun k4 => mv t1 fun v => k4 v w) w fun t14 w =>
  gd t13 true (fun k5 => mv t1 fun v => k5 v w) w fun t15 w =>
  gd t13 true (fun k6 => o1 Tryz.prog (Instr.build 49 #[(4, .int .i64 1)]) w k6) w fun t16 w =>
  gd t13 true (fun k7 => o1 Tryz.prog (Instr.buildSlice 27 1 #[(0, t16)]) w k7) w fun t17 w =>
  gd t13 true (fun k8 => o1 Tryz.prog (Instr.build 29 #[(3, t17)]) w k8) w fun t18 w =>
  gd t13 true (fun k9 => C Tryz.prog N.types_VerifyTrust #[t14, t15, t18] w k9) w fun t19 w =>
  gd t13 true (fun k10 => C Tryz.prog N.isthmuslaw11_num #[t19] w k10) w fun t20 w =>
  gd t13 true (fun k11 => o1 Tryz.prog (bin .eql 3 (.tmp 20) (.const (.int .i64 32)) t20 (.int .i64 32)) w k11) w fun t21 w =>
  pk t13 t21 (.bool false) fun t22 =>
  mv t22 fun t23 =>
  gd t23 true (fun k12 => mv t1 fun v => k12 v w) w fun t24 w =>
  gd t23 true (fun k13 => mv t1 fun v => k13 v w) w fun t25 w =>
  gd t23 true (fun k14 => o1 Tryz.prog (Instr.build 49 #[(4, .int .i64 0)]) w k14) w fun t26 w =>
  gd t23 true (fun k15 => o1 Tryz.prog (Instr.buildSlice 27 1 #[(0, t26)]) w k15) w fun t27 w =>
  gd t23 true (fun k16 => o1 Tryz.prog (Instr.build 29 #[(3, t27)]) w k16) w fun t28 w =>
  gd t23 true (fun k17 => C Tryz.prog N.types_VerifyTrust #[t24, t25, t28] w k17) w fun t29 w =>
  gd t23 true (fun k18 => o1 Tryz.prog (bin .eql 34 (.tmp 29) (.const .nilIface) t29 .nilIface) w k18) w fun t30 w =>
  pk t23 t30 (.bool false) fun t31 =>
  mv t31 fun t0_1 =>
  k t0_1 w
theorem C.isthmuslaw11_sure {k : Value → World → Prop} {w : World} (h : F.isthmuslaw11_sure k  w) : C Tryz.prog N.isthmuslaw11_sure #[] w k :=
  den_calls (H := { moves := [], vars := [0, 1] }) (args := []) mixed Tryz.func20 (by kernel_rfl) (by kernel_rfl) (by kernel_rfl) h

-- isthmus/types.DecodeVote
-- isthmus/isthmusref11.DecodeVote
-- isthmus/types.DecodeCommit
-- isthmus/isthmusref11.DecodeCommit
-- isthmus/types.DecodeHeader
-- isthmus/isthmusref11.DecodeHeader
-- isthmus/types.DecodeBlock
-- isthmus/isthmusref11.DecodeBlock
-- isthmus/isthmuslaw11.votes
-- isthmus/isthmuslaw11.commit
-- isthmus/isthmuslaw11.lists
-- isthmus/types.DecodeSet
-- isthmus/isthmusref11.DecodeSet
-- isthmus/types.CheckSet
def F.types_CheckSet (k : Value → World → Prop) (a0 : Value) (w : World) : Prop :=
  mv .nilIface fun t2 =>
  mv a0 fun t7 =>
  o1 Tryz.prog (Builtin.len_ #[70] 3 #[t7]) w fun t8 w =>
  o1 Tryz.prog (bin .eql 3 (.tmp 8) (.const (.int .i64 0)) t8 (.int .i64 0)) w fun t9 w =>
  mv t9 fun t10 =>
  gd t10 false (fun k1 => mv a0 fun v => k1 v w) w fun t11 w =>
  gd t10 false (fun k2 => o1 Tryz.prog (Builtin.len_ #[70] 3 #[t11]) w k2) w fun t12 w =>
  gd t10 false (fun k3 => o1 Tryz.prog (bin .gtr 3 (.tmp 12) (.const (.int .i64 32)) t12 (.int .i64 32)) w k3) w fun t13 w =>
  pk t10 (.bool true) t13 fun t14 =>
  br t14 (fun _ =>
  C Tryz.prog N.types_fault #[.string ⟨#[115, 101, 116]⟩, .int .i64 30] w fun t15 w =>
  mv t15 fun t2_1 =>
  k t2_1 w) (fun _ =>
  mv (.int .i64 1099511627776) fun t3 =>
  mv a0 fun t16 =>
  o1 Tryz.prog (Builtin.len_ #[70] 3 #[t16]) w fun t17 w =>
  mv (.int .i64 0) fun t18 =>
  lp [t2, t3, undef, undef, t18] w fun I1 μ1 => ∀ (x1 : Env) (w1 : World), I1 [x1 2, x1 3, x1 4, x1 6, x1 18] w1 →
  o1 Tryz.prog (bin .lss 3 (.tmp 18) (.tmp 17) (x1 18) t17) w1 fun t19 w =>
  br t19 (fun _ =>
  mv (x1 18) fun t20 =>
  o1 Tryz.prog (Instr.indexAt 70 t16 (x1 18)) w fun t21 w =>
  o1 Tryz.prog (Instr.loadAt 76 t21) w fun t22 w =>
  o1 Tryz.prog (Instr.alloc 76 true (.tuple #[])) w fun t5 w =>
  mv t20 fun t4 =>
  o0 Tryz.prog (Instr.storeAt 76 t5 t22) w fun _ w =>
  mv a0 fun t23 =>
  mv t4 fun t24 =>
  o1 Tryz.prog (Instr.sliceAt 70 t23 none (some t24) none) w fun t25 w =>
  o1 Tryz.prog (Instr.makeFunc (.func 92) #[] #[t5]) w fun t26 w =>
  C Tryz.prog N.slices_ContainsFunc_api_Validator_api_Validator #[t25, t26] w fun t27 w =>
  mv t27 fun t6 =>
  o1 Tryz.prog (Instr.fieldAt 76 t5 0) w fun t28 w =>
  o1 Tryz.prog (Instr.loadAt 9 t28) w fun t29 w =>
  C Tryz.prog N.types_named #[t29] w fun t30 w =>
  o1 Tryz.prog (Op.unary .not t30) w fun t31 w =>
  mv t31 fun t32 =>
  gd t32 false (fun k4 => mv t6 fun v => k4 v w) w fun t33 w =>
  pk t32 (.bool true) t33 fun t34 =>
  mv t34 fun t35 =>
  gd t35 false (fun k5 => o1 Tryz.prog (Instr.fieldAt 76 t5 2) w k5) w fun t36 w =>
  gd t35 false (fun k6 => o1 Tryz.prog (Instr.loadAt 3 t36) w k6) w fun t37 w =>
  gd t35 false (fun k7 => o1 Tryz.prog (bin .lss 3 (.tmp 37) (.const (.int .i64 1)) t37 (.int .i64 1)) w k7) w fun t38 w =>
  pk t35 (.bool true) t38 fun t39 =>
  mv t39 fun t40 =>
  gd t40 false (fun k8 => o1 Tryz.prog (Instr.fieldAt 76 t5 2) w k8) w fun t41 w =>
  gd t40 false (fun k9 => o1 Tryz.prog (Instr.loadAt 3 t41) w k9) w fun t42 w =>
  gd t40 false (fun k10 => mv (x1 3) fun v => k10 v w) w fun t43 w =>
  gd t40 false (fun k11 => o1 Tryz.prog (bin .gtr 3 (.tmp 42) (.tmp 43) t42 t43) w k11) w fun t44 w =>
  pk t40 (.bool true) t44 fun t45 =>
  br t45 (fun _ =>
  C Tryz.prog N.types_fault #[.string ⟨#[118, 97, 108, 105, 100, 97, 116, 111, 114]⟩, .int .i64 30] w fun t46 w =>
  mv t46 fun t2_2 =>
  k t2_2 w) (fun _ =>
  mv (x1 3) fun t47 =>
  o1 Tryz.prog (Instr.fieldAt 76 t5 2) w fun t48 w =>
  o1 Tryz.prog (Instr.loadAt 3 t48) w fun t49 w =>
  o1 Tryz.prog (bin .sub 3 (.tmp 47) (.tmp 49) t47 t49) w fun t50 w =>
  mv t50 fun t3_1 =>
  o1 Tryz.prog (bin .add 3 (.tmp 18) (.const (.int .i64 1)) (x1 18) (.int .i64 1)) w fun t51 w =>
  mv t51 fun t18_1 =>
  I1 [(x1 2), t3_1, t4, t6, t18_1] w ∧ μ1 [(x1 2), t3_1, t4, t6, t18_1] w < μ1 [x1 2, x1 3, x1 4, x1 6, x1 18] w1)) (fun _ =>
  mv .nilIface fun t2_3 =>
  k t2_3 w))
theorem C.types_CheckSet {k : Value → World → Prop} {a0 : Value} {w : World} (h : F.types_CheckSet k a0 w) : C Tryz.prog N.types_CheckSet #[a0] w k :=
  den_calls (H := { moves := [], vars := [2, 3, 4, 6, 18] }) (args := [a0]) mixed Tryz.func34 (by kernel_rfl) (by kernel_rfl) (by kernel_rfl) h

-- isthmus/isthmusref11.CheckSet
end Go.Proofs.YtlfelmikcdmkhaaGreatDoor
