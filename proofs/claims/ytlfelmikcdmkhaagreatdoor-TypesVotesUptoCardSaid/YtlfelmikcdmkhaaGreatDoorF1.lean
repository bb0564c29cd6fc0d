/- What each function asks: printed by hoas.py off the loaded program; each is held against the program by the kernel. -/
import Derived.Test.YtlfelmikcdmkhaaGreatDoorN
set_option linter.unusedVariables false
set_option linter.unusedSimpArgs false
set_option linter.unusedSectionVars false
namespace Go.Proofs.YtlfelmikcdmkhaaGreatDoor
open Go Go.Isk
set_option maxRecDepth 100000
-- isthmus/types.Total
def F.types_Total (k : Value → World → Prop) (a0 : Value) (w : World) : Prop :=
  mv (.int .i64 0) fun t2 =>
  mv (.int .i64 0) fun t3 =>
  mv a0 fun t6 =>
  o1 Tryz.prog (Builtin.len_ #[70] 3 #[t6]) w fun t7 w =>
  mv (.int .i64 0) fun t8 =>
  lp [t3, t8] w fun I1 μ1 => ∀ (x1 : Env) (w1 : World), I1 [x1 3, x1 8] w1 →
  o1 Tryz.prog (bin .lss 3 (.tmp 8) (.tmp 7) (x1 8) t7) w1 fun t9 w =>
  br t9 (fun _ =>
  o1 Tryz.prog (Instr.indexAt 70 t6 (x1 8)) w fun t10 w =>
  o1 Tryz.prog (Instr.loadAt 76 t10) w fun t11 w =>
  o1 Tryz.prog (Instr.alloc 76 true (.tuple #[])) w fun t5 w =>
  o0 Tryz.prog (Instr.storeAt 76 t5 t11) w fun _ w =>
  mv (x1 3) fun t12 =>
  o1 Tryz.prog (Instr.fieldAt 76 t5 2) w fun t13 w =>
  o1 Tryz.prog (Instr.loadAt 3 t13) w fun t14 w =>
  o1 Tryz.prog (bin .add 3 (.tmp 12) (.tmp 14) t12 t14) w fun t15 w =>
  mv t15 fun t3_1 =>
  o1 Tryz.prog (bin .add 3 (.tmp 8) (.const (.int .i64 1)) (x1 8) (.int .i64 1)) w fun t16 w =>
  mv t16 fun t8_1 =>
  I1 [t3_1, t8_1] w ∧ μ1 [t3_1, t8_1] w < μ1 [x1 3, x1 8] w1) (fun _ =>
  mv (x1 3) fun t17 =>
  mv t17 fun t2_1 =>
  k t2_1 w)
theorem C.types_Total {k : Value → World → Prop} {a0 : Value} {w : World} (h : F.types_Total k a0 w) : C Tryz.prog N.types_Total #[a0] w k :=
  den_calls (H := { moves := [], vars := [2, 3, 8] }) (args := [a0]) mixed Tryz.func36 (by kernel_rfl) (by kernel_rfl) (by kernel_rfl) h

-- isthmus/isthmusref11.Total
-- isthmus/types.SetHash
-- isthmus/isthmusref11.SetHash
-- isthmus/types.EncodeSet
-- isthmus/isthmusref11.Set
-- isthmus/isthmuslaw11.cut
def F.isthmuslaw11_cut (k : Value → World → Prop) (a0 : Value) (w : World) : Prop :=
  o1 Tryz.prog (Instr.box 83 a0) w fun t1 w =>
  o1 Tryz.prog (Instr.alloc 83 true (.tuple #[])) w fun t2 w =>
  o1 Tryz.prog (Instr.fieldAt 83 t1 1) w fun t3 w =>
  o1 Tryz.prog (Instr.loadAt 3 t3) w fun t4 w =>
  o1 Tryz.prog (bin .gtr 3 (.tmp 4) (.const (.int .i64 3)) t4 (.int .i64 3)) w fun t5 w =>
  mv t5 fun t6 =>
  gd t6 true (fun k1 => o1 Tryz.prog (Instr.fieldAt 83 t1 1) w k1) w fun t7 w =>
  gd t6 true (fun k2 => o1 Tryz.prog (Instr.loadAt 3 t7) w k2) w fun t8 w =>
  gd t6 true (fun k3 => o1 Tryz.prog (bin .leq 3 (.tmp 8) (.const (.int .i64 10)) t8 (.int .i64 10)) w k3) w fun t9 w =>
  pk t6 t9 (.bool false) fun t10 =>
  jn (fun x1 => []) (fun k4 =>
  br t10 (fun _ =>
  o1 Tryz.prog (Instr.fieldAt 83 t1 1) w fun t11 w =>
  o1 Tryz.prog (Instr.loadAt 3 t11) w fun t12 w =>
  o1 Tryz.prog (bin .rem 3 (.tmp 12) (.const (.int .i64 4)) t12 (.int .i64 4)) w fun t13 w =>
  o1 Tryz.prog (Instr.fieldAt 83 t1 1) w fun t14 w =>
  o0 Tryz.prog (Instr.storeAt 3 t14 t13) w fun _ w =>
  k4 [] w) (fun _ =>
  k4 [] w)) fun x1 w =>
  o1 Tryz.prog (Instr.loadAt 83 t1) w fun t15 w =>
  o0 Tryz.prog (Instr.storeAt 83 t2 t15) w fun _ w =>
  rc Tryz.prog 83 t2 w fun r0 =>
  k r0 w
theorem C.isthmuslaw11_cut {k : Value → World → Prop} {a0 : Value} {w : World} (h : F.isthmuslaw11_cut k a0 w) : C Tryz.prog N.isthmuslaw11_cut #[a0] w k :=
  den_calls (H := { moves := [], vars := [] }) (args := [a0]) mixed Tryz.func42 (by kernel_rfl) (by kernel_rfl) (by kernel_rfl) h

-- isthmus/types.VerifyVote
def F.types_VerifyVote (k : Value → World → Prop) (a0 a1 a2 a3 : Value) (w : World) : Prop :=
  o1 Tryz.prog (Instr.box 83 a2) w fun t6 w =>
  o1 Tryz.prog (Instr.box 49 a3) w fun t7 w =>
  mv .nilIface fun t8 =>
  o1 Tryz.prog (Instr.fieldAt 49 t7 0) w fun t12 w =>
  o1 Tryz.prog (Instr.loadAt 3 t12) w fun t13 w =>
  o1 Tryz.prog (bin .eql 3 (.tmp 13) (.const (.int .i64 1)) t13 (.int .i64 1)) w fun t14 w =>
  mv t14 fun t15 =>
  gd t15 false (fun k1 => o1 Tryz.prog (Instr.fieldAt 49 t7 0) w k1) w fun t16 w =>
  gd t15 false (fun k2 => o1 Tryz.prog (Instr.loadAt 3 t16) w k2) w fun t17 w =>
  gd t15 false (fun k3 => o1 Tryz.prog (bin .eql 3 (.tmp 17) (.const (.int .i64 2)) t17 (.int .i64 2)) w k3) w fun t18 w =>
  pk t15 (.bool true) t18 fun t19 =>
  mv t19 fun t9 =>
  mv t9 fun t20 =>
  o1 Tryz.prog (Op.unary .not t20) w fun t21 w =>
  mv t21 fun t22 =>
  gd t22 false (fun k4 => o1 Tryz.prog (Instr.fieldAt 49 t7 1) w k4) w fun t23 w =>
  gd t22 false (fun k5 => o1 Tryz.prog (Instr.loadAt 3 t23) w k5) w fun t24 w =>
  gd t22 false (fun k6 => o1 Tryz.prog (bin .lss 3 (.tmp 24) (.const (.int .i64 1)) t24 (.int .i64 1)) w k6) w fun t25 w =>
  pk t22 (.bool true) t25 fun t26 =>
  mv t26 fun t27 =>
  gd t27 false (fun k7 => o1 Tryz.prog (Instr.fieldAt 49 t7 1) w k7) w fun t28 w =>
  gd t27 false (fun k8 => o1 Tryz.prog (Instr.loadAt 3 t28) w k8) w fun t29 w =>
  gd t27 false (fun k9 => o1 Tryz.prog (bin .gtr 3 (.tmp 29) (.const (.int .i64 1099511627776)) t29 (.int .i64 1099511627776)) w k9) w fun t30 w =>
  pk t27 (.bool true) t30 fun t31 =>
  mv t31 fun t32 =>
  gd t32 false (fun k10 => o1 Tryz.prog (Instr.fieldAt 49 t7 2) w k10) w fun t33 w =>
  gd t32 false (fun k11 => o1 Tryz.prog (Instr.loadAt 3 t33) w k11) w fun t34 w =>
  gd t32 false (fun k12 => o1 Tryz.prog (bin .lss 3 (.tmp 34) (.const (.int .i64 0)) t34 (.int .i64 0)) w k12) w fun t35 w =>
  pk t32 (.bool true) t35 fun t36 =>
  mv t36 fun t37 =>
  gd t37 false (fun k13 => o1 Tryz.prog (Instr.fieldAt 49 t7 2) w k13) w fun t38 w =>
  gd t37 false (fun k14 => o1 Tryz.prog (Instr.loadAt 3 t38) w k14) w fun t39 w =>
  gd t37 false (fun k15 => o1 Tryz.prog (bin .gtr 3 (.tmp 39) (.const (.int .i64 1073741824)) t39 (.int .i64 1073741824)) w k15) w fun t40 w =>
  pk t37 (.bool true) t40 fun t41 =>
  mv t41 fun t42 =>
  gd t42 false (fun k16 => o1 Tryz.prog (Instr.fieldAt 49 t7 4) w k16) w fun t43 w =>
  gd t42 false (fun k17 => o1 Tryz.prog (Instr.loadAt 3 t43) w k17) w fun t44 w =>
  gd t42 false (fun k18 => o1 Tryz.prog (bin .lss 3 (.tmp 44) (.const (.int .i64 0)) t44 (.int .i64 0)) w k18) w fun t45 w =>
  pk t42 (.bool true) t45 fun t46 =>
  mv t46 fun t47 =>
  gd t47 false (fun k19 => o1 Tryz.prog (Instr.fieldAt 49 t7 4) w k19) w fun t48 w =>
  gd t47 false (fun k20 => o1 Tryz.prog (Instr.loadAt 3 t48) w k20) w fun t49 w =>
  gd t47 false (fun k21 => mv a1 fun v => k21 v w) w fun t50 w =>
  gd t47 false (fun k22 => o1 Tryz.prog (Builtin.len_ #[70] 3 #[t50]) w k22) w fun t51 w =>
  gd t47 false (fun k23 => o1 Tryz.prog (bin .geq 3 (.tmp 49) (.tmp 51) t49 t51) w k23) w fun t52 w =>
  pk t47 (.bool true) t52 fun t53 =>
  br t53 (fun _ =>
  C Tryz.prog N.types_fault #[.string ⟨#[118, 111, 116, 101]⟩, .int .i64 31] w fun t54 w =>
  mv t54 fun t8_1 =>
  k t8_1 w) (fun _ =>
  o1 Tryz.prog (Instr.loadAt 83 t6) w fun t55 w =>
  C Tryz.prog N.keys_Check #[t55] w fun t56 w =>
  mv t56 fun t10 =>
  mv t10 fun t57 =>
  o1 Tryz.prog (bin .neq 34 (.tmp 57) (.const .nilIface) t57 .nilIface) w fun t58 w =>
  br t58 (fun _ =>
  mv t10 fun t59 =>
  mv t59 fun t8_2 =>
  k t8_2 w) (fun _ =>
  dr w.drew fun S1 =>
  mv a1 fun t60 =>
  tk Tryz.prog S1 (Instr.fieldAt 49 t7 4) fun t61 =>
  tk Tryz.prog S1 (Instr.loadAt 3 t61) fun t62 =>
  tk Tryz.prog S1 (Instr.indexAt 70 t60 t62) fun t63 =>
  tk Tryz.prog S1 (Instr.fieldAt 76 t63 1) fun t64 =>
  tk Tryz.prog S1 (Instr.loadAt 23 t64) fun t65 =>
  tk Tryz.prog S1 (Instr.loadAt 83 t6) fun t66 =>
  mv a0 fun t67 =>
  tk Tryz.prog S1 (Instr.loadAt 49 t7) fun t68 =>
  tk Tryz.prog S1 (Instr.fieldAt 49 t7 5) fun t70 =>
  tk Tryz.prog S1 (Instr.loadAt 39 t70) fun t71 =>
  C Tryz.prog N.types_VoteBytes #[t67, t68] w.drew fun t69 w =>
  S1 w ∧
  C Tryz.prog N.keys_Verify #[t65, t66, t69, t71] w fun t72 w =>
  S1 w ∧
  mv t72 fun t11 =>
  mv t11 fun t73 =>
  o1 Tryz.prog (bin .neq 34 (.tmp 73) (.const .nilIface) t73 .nilIface) w fun t74 w =>
  br t74 (fun _ =>
  C Tryz.prog N.types_fault #[.string ⟨#[118, 111, 116, 101]⟩, .int .i64 21] w fun t75 w =>
  mv t75 fun t8_3 =>
  k t8_3 w) (fun _ =>
  mv .nilIface fun t8_4 =>
  k t8_4 w)))
theorem C.types_VerifyVote {k : Value → World → Prop} {a0 a1 a2 a3 : Value} {w : World} (h : F.types_VerifyVote k a0 a1 a2 a3 w) : C Tryz.prog N.types_VerifyVote #[a0, a1, a2, a3] w k :=
  den_calls (H := { moves := [(7, (.take 0 (.take 1 (.take 2 (.take 3 (.take 4 (.take 5 (.take 6 (.take 7 (.take 8 (.take 10 (.take 11 (.force 9 (.force 12 (.take 13 .fin)))))))))))))))], vars := [8, 9, 10, 11] }) (args := [a0, a1, a2, a3]) mixed Tryz.func43 (by kernel_rfl) (by kernel_rfl) (by kernel_rfl) h

-- isthmus/isthmusref11.VerifyVote
def F.isthmusref11_VerifyVote (k : Value → World → Prop) (a0 a1 a2 a3 : Value) (w : World) : Prop :=
  o1 Tryz.prog (Instr.box 83 a2) w fun t6 w =>
  o1 Tryz.prog (Instr.box 49 a3) w fun t7 w =>
  mv (.int .i64 0) fun t8 =>
  o1 Tryz.prog (Instr.fieldAt 49 t7 0) w fun t10 w =>
  o1 Tryz.prog (Instr.loadAt 3 t10) w fun t11 w =>
  o1 Tryz.prog (bin .lss 3 (.tmp 11) (.const (.int .i64 1)) t11 (.int .i64 1)) w fun t12 w =>
  mv t12 fun t13 =>
  gd t13 false (fun k1 => o1 Tryz.prog (Instr.fieldAt 49 t7 0) w k1) w fun t14 w =>
  gd t13 false (fun k2 => o1 Tryz.prog (Instr.loadAt 3 t14) w k2) w fun t15 w =>
  gd t13 false (fun k3 => o1 Tryz.prog (bin .gtr 3 (.tmp 15) (.const (.int .i64 2)) t15 (.int .i64 2)) w k3) w fun t16 w =>
  pk t13 (.bool true) t16 fun t17 =>
  mv t17 fun t18 =>
  gd t18 false (fun k4 => o1 Tryz.prog (Instr.fieldAt 49 t7 1) w k4) w fun t19 w =>
  gd t18 false (fun k5 => o1 Tryz.prog (Instr.loadAt 3 t19) w k5) w fun t20 w =>
  gd t18 false (fun k6 => o1 Tryz.prog (bin .lss 3 (.tmp 20) (.const (.int .i64 1)) t20 (.int .i64 1)) w k6) w fun t21 w =>
  pk t18 (.bool true) t21 fun t22 =>
  mv t22 fun t23 =>
  gd t23 false (fun k7 => o1 Tryz.prog (Instr.fieldAt 49 t7 1) w k7) w fun t24 w =>
  gd t23 false (fun k8 => o1 Tryz.prog (Instr.loadAt 3 t24) w k8) w fun t25 w =>
  gd t23 false (fun k9 => o1 Tryz.prog (bin .gtr 3 (.tmp 25) (.const (.int .i64 1099511627776)) t25 (.int .i64 1099511627776)) w k9) w fun t26 w =>
  pk t23 (.bool true) t26 fun t27 =>
  mv t27 fun t28 =>
  gd t28 false (fun k10 => o1 Tryz.prog (Instr.fieldAt 49 t7 2) w k10) w fun t29 w =>
  gd t28 false (fun k11 => o1 Tryz.prog (Instr.loadAt 3 t29) w k11) w fun t30 w =>
  gd t28 false (fun k12 => o1 Tryz.prog (bin .lss 3 (.tmp 30) (.const (.int .i64 0)) t30 (.int .i64 0)) w k12) w fun t31 w =>
  pk t28 (.bool true) t31 fun t32 =>
  mv t32 fun t33 =>
  gd t33 false (fun k13 => o1 Tryz.prog (Instr.fieldAt 49 t7 2) w k13) w fun t34 w =>
  gd t33 false (fun k14 => o1 Tryz.prog (Instr.loadAt 3 t34) w k14) w fun t35 w =>
  gd t33 false (fun k15 => o1 Tryz.prog (bin .gtr 3 (.tmp 35) (.const (.int .i64 1073741824)) t35 (.int .i64 1073741824)) w k15) w fun t36 w =>
  pk t33 (.bool true) t36 fun t37 =>
  mv t37 fun t38 =>
  gd t38 false (fun k16 => o1 Tryz.prog (Instr.fieldAt 49 t7 4) w k16) w fun t39 w =>
  gd t38 false (fun k17 => o1 Tryz.prog (Instr.loadAt 3 t39) w k17) w fun t40 w =>
  gd t38 false (fun k18 => o1 Tryz.prog (bin .lss 3 (.tmp 40) (.const (.int .i64 0)) t40 (.int .i64 0)) w k18) w fun t41 w =>
  pk t38 (.bool true) t41 fun t42 =>
  mv t42 fun t43 =>
  gd t43 false (fun k19 => o1 Tryz.prog (Instr.fieldAt 49 t7 4) w k19) w fun t44 w =>
  gd t43 false (fun k20 => o1 Tryz.prog (Instr.loadAt 3 t44) w k20) w fun t45 w =>
  gd t43 false (fun k21 => mv a1 fun v => k21 v w) w fun t46 w =>
  gd t43 false (fun k22 => o1 Tryz.prog (Builtin.len_ #[70] 3 #[t46]) w k22) w fun t47 w =>
  gd t43 false (fun k23 => o1 Tryz.prog (bin .geq 3 (.tmp 45) (.tmp 47) t45 t47) w k23) w fun t48 w =>
  pk t43 (.bool true) t48 fun t49 =>
  mv t49 fun t9 =>
  br t9 (fun _ =>
  mv (.int .i64 31) fun t8_1 =>
  k t8_1 w) (fun _ =>
  o1 Tryz.prog (Instr.loadAt 83 t6) w fun t51 w =>
  C Tryz.prog N.isthmusref06_Check #[t51] w fun t52 w =>
  o1 Tryz.prog (bin .neq 3 (.tmp 52) (.const (.int .i64 0)) t52 (.int .i64 0)) w fun t53 w =>
  mv t53 fun t50 =>
  br t50 (fun _ =>
  o1 Tryz.prog (Instr.loadAt 83 t6) w fun t54 w =>
  C Tryz.prog N.isthmusref06_Check #[t54] w fun t55 w =>
  mv t55 fun t8_2 =>
  k t8_2 w) (fun _ =>
  dr w.drew fun S1 =>
  mv a1 fun t57 =>
  tk Tryz.prog S1 (Instr.fieldAt 49 t7 4) fun t58 =>
  tk Tryz.prog S1 (Instr.loadAt 3 t58) fun t59 =>
  tk Tryz.prog S1 (Instr.indexAt 70 t57 t59) fun t60 =>
  tk Tryz.prog S1 (Instr.fieldAt 76 t60 1) fun t61 =>
  tk Tryz.prog S1 (Instr.loadAt 23 t61) fun t62 =>
  tk Tryz.prog S1 (Instr.loadAt 83 t6) fun t63 =>
  mv a0 fun t64 =>
  tk Tryz.prog S1 (Instr.loadAt 49 t7) fun t65 =>
  tk Tryz.prog S1 (Instr.fieldAt 49 t7 5) fun t67 =>
  tk Tryz.prog S1 (Instr.loadAt 39 t67) fun t68 =>
  C Tryz.prog N.isthmusref11_VoteBytes #[t64, t65] w.drew fun t66 w =>
  S1 w ∧
  C Tryz.prog N.isthmusref06_Verify #[t62, t63, t66, t68] w fun t69 w =>
  S1 w ∧
  tk Tryz.prog S1 (bin .neq 3 (.tmp 69) (.const (.int .i64 0)) t69 (.int .i64 0)) fun t70 =>
  mv t70 fun t56 =>
  br t56 (fun _ =>
  mv (.int .i64 21) fun t8_3 =>
  k t8_3 w) (fun _ =>
  mv (.int .i64 0) fun t8_4 =>
  k t8_4 w)))
theorem C.isthmusref11_VerifyVote {k : Value → World → Prop} {a0 a1 a2 a3 : Value} {w : World} (h : F.isthmusref11_VerifyVote k a0 a1 a2 a3 w) : C Tryz.prog N.isthmusref11_VerifyVote #[a0, a1, a2, a3] w k :=
  den_calls (H := { moves := [(5, (.take 0 (.take 1 (.take 2 (.take 3 (.take 4 (.take 5 (.take 6 (.take 7 (.take 8 (.take 10 (.take 11 (.force 9 (.force 12 (.take 13 (.take 14 .fin))))))))))))))))], vars := [8, 9, 50, 56] }) (args := [a0, a1, a2, a3]) mixed Tryz.func44 (by kernel_rfl) (by kernel_rfl) (by kernel_rfl) h

-- isthmus/types.TwoWays
def F.types_TwoWays (k : Value → World → Prop) (a0 a1 a2 a3 a4 : Value) (w : World) : Prop :=
  o1 Tryz.prog (Instr.box 83 a2) w fun t7 w =>
  o1 Tryz.prog (Instr.box 49 a3) w fun t8 w =>
  o1 Tryz.prog (Instr.box 49 a4) w fun t9 w =>
  mv .nilIface fun t10 =>
  o1 Tryz.prog (Instr.loadAt 49 t8) w fun t15 w =>
  o1 Tryz.prog (Instr.loadAt 49 t9) w fun t16 w =>
  o1 Tryz.prog (Instr.buildSlice 27 2 #[(0, t15), (1, t16)]) w fun t17 w =>
  o1 Tryz.prog (Builtin.len_ #[27] 3 #[t17]) w fun t18 w =>
  mv (.int .i64 0) fun t19 =>
  lp [t10, undef, t19] w fun I1 μ1 => ∀ (x1 : Env) (w1 : World), I1 [x1 10, x1 13, x1 19] w1 →
  o1 Tryz.prog (bin .lss 3 (.tmp 19) (.tmp 18) (x1 19) t18) w1 fun t20 w =>
  br t20 (fun _ =>
  o1 Tryz.prog (Instr.indexAt 27 t17 (x1 19)) w fun t21 w =>
  o1 Tryz.prog (Instr.loadAt 49 t21) w fun t22 w =>
  o1 Tryz.prog (Instr.alloc 49 true (.tuple #[])) w fun t12 w =>
  o0 Tryz.prog (Instr.storeAt 49 t12 t22) w fun _ w =>
  mv a0 fun t23 =>
  mv a1 fun t24 =>
  o1 Tryz.prog (Instr.loadAt 83 t7) w fun t25 w =>
  o1 Tryz.prog (Instr.loadAt 49 t12) w fun t26 w =>
  C Tryz.prog N.types_VerifyVote #[t23, t24, t25, t26] w fun t27 w =>
  mv t27 fun t13 =>
  mv t13 fun t28 =>
  o1 Tryz.prog (bin .neq 34 (.tmp 28) (.const .nilIface) t28 .nilIface) w fun t29 w =>
  br t29 (fun _ =>
  mv t13 fun t30 =>
  mv t30 fun t10_1 =>
  k t10_1 w) (fun _ =>
  o1 Tryz.prog (bin .add 3 (.tmp 19) (.const (.int .i64 1)) (x1 19) (.int .i64 1)) w fun t31 w =>
  mv t31 fun t19_1 =>
  I1 [(x1 10), t13, t19_1] w ∧ μ1 [(x1 10), t13, t19_1] w < μ1 [x1 10, x1 13, x1 19] w1)) (fun _ =>
  o1 Tryz.prog (Instr.fieldAt 49 t8 0) w fun t32 w =>
  o1 Tryz.prog (Instr.loadAt 3 t32) w fun t33 w =>
  o1 Tryz.prog (Instr.fieldAt 49 t9 0) w fun t34 w =>
  o1 Tryz.prog (Instr.loadAt 3 t34) w fun t35 w =>
  o1 Tryz.prog (bin .eql 3 (.tmp 33) (.tmp 35) t33 t35) w fun t36 w =>
  mv t36 fun t37 =>
  gd t37 true (fun k1 => o1 Tryz.prog (Instr.fieldAt 49 t8 1) w k1) w fun t38 w =>
  gd t37 true (fun k2 => o1 Tryz.prog (Instr.loadAt 3 t38) w k2) w fun t39 w =>
  gd t37 true (fun k3 => o1 Tryz.prog (Instr.fieldAt 49 t9 1) w k3) w fun t40 w =>
  gd t37 true (fun k4 => o1 Tryz.prog (Instr.loadAt 3 t40) w k4) w fun t41 w =>
  gd t37 true (fun k5 => o1 Tryz.prog (bin .eql 3 (.tmp 39) (.tmp 41) t39 t41) w k5) w fun t42 w =>
  pk t37 t42 (.bool false) fun t43 =>
  mv t43 fun t44 =>
  gd t44 true (fun k6 => o1 Tryz.prog (Instr.fieldAt 49 t8 2) w k6) w fun t45 w =>
  gd t44 true (fun k7 => o1 Tryz.prog (Instr.loadAt 3 t45) w k7) w fun t46 w =>
  gd t44 true (fun k8 => o1 Tryz.prog (Instr.fieldAt 49 t9 2) w k8) w fun t47 w =>
  gd t44 true (fun k9 => o1 Tryz.prog (Instr.loadAt 3 t47) w k9) w fun t48 w =>
  gd t44 true (fun k10 => o1 Tryz.prog (bin .eql 3 (.tmp 46) (.tmp 48) t46 t48) w k10) w fun t49 w =>
  pk t44 t49 (.bool false) fun t50 =>
  mv t50 fun t51 =>
  gd t51 true (fun k11 => o1 Tryz.prog (Instr.fieldAt 49 t8 4) w k11) w fun t52 w =>
  gd t51 true (fun k12 => o1 Tryz.prog (Instr.loadAt 3 t52) w k12) w fun t53 w =>
  gd t51 true (fun k13 => o1 Tryz.prog (Instr.fieldAt 49 t9 4) w k13) w fun t54 w =>
  gd t51 true (fun k14 => o1 Tryz.prog (Instr.loadAt 3 t54) w k14) w fun t55 w =>
  gd t51 true (fun k15 => o1 Tryz.prog (bin .eql 3 (.tmp 53) (.tmp 55) t53 t55) w k15) w fun t56 w =>
  pk t51 t56 (.bool false) fun t57 =>
  mv t57 fun t14 =>
  mv t14 fun t58 =>
  o1 Tryz.prog (Op.unary .not t58) w fun t59 w =>
  mv t59 fun t60 =>
  gd t60 false (fun k16 => o1 Tryz.prog (Instr.fieldAt 49 t8 3) w k16) w fun t61 w =>
  gd t60 false (fun k17 => o1 Tryz.prog (Instr.loadAt 23 t61) w k17) w fun t62 w =>
  gd t60 false (fun k18 => o1 Tryz.prog (Instr.fieldAt 49 t9 3) w k18) w fun t63 w =>
  gd t60 false (fun k19 => o1 Tryz.prog (Instr.loadAt 23 t63) w k19) w fun t64 w =>
  gd t60 false (fun k20 => o1 Tryz.prog (bin .eql 23 (.tmp 62) (.tmp 64) t62 t64) w k20) w fun t65 w =>
  pk t60 (.bool true) t65 fun t66 =>
  br t66 (fun _ =>
  C Tryz.prog N.types_fault #[.string ⟨#[101, 118, 105, 100, 101, 110, 99, 101]⟩, .int .i64 31] w fun t67 w =>
  mv t67 fun t10_2 =>
  k t10_2 w) (fun _ =>
  mv .nilIface fun t10_3 =>
  k t10_3 w))
theorem C.types_TwoWays {k : Value → World → Prop} {a0 a1 a2 a3 a4 : Value} {w : World} (h : F.types_TwoWays k a0 a1 a2 a3 a4 w) : C Tryz.prog N.types_TwoWays #[a0, a1, a2, a3, a4] w k :=
  den_calls (H := { moves := [], vars := [10, 13, 14, 19] }) (args := [a0, a1, a2, a3, a4]) mixed Tryz.func45 (by kernel_rfl) (by kernel_rfl) (by kernel_rfl) h

-- isthmus/isthmusref11.TwoWays
def F.isthmusref11_TwoWays (k : Value → World → Prop) (a0 a1 a2 a3 a4 : Value) (w : World) : Prop :=
  o1 Tryz.prog (Instr.box 83 a2) w fun t7 w =>
  o1 Tryz.prog (Instr.box 49 a3) w fun t8 w =>
  o1 Tryz.prog (Instr.box 49 a4) w fun t9 w =>
  mv (.int .i64 0) fun t10 =>
  mv a0 fun t12 =>
  mv a1 fun t13 =>
  o1 Tryz.prog (Instr.loadAt 83 t7) w fun t14 w =>
  o1 Tryz.prog (Instr.loadAt 49 t8) w fun t15 w =>
  C Tryz.prog N.isthmusref11_VerifyVote #[t12, t13, t14, t15] w fun t16 w =>
  mv t16 fun t11 =>
  mv t11 fun t17 =>
  o1 Tryz.prog (bin .eql 3 (.tmp 17) (.const (.int .i64 0)) t17 (.int .i64 0)) w fun t18 w =>
  jn (fun x1 => [x1 11]) (fun k1 =>
  br t18 (fun _ =>
  mv a0 fun t19 =>
  mv a1 fun t20 =>
  o1 Tryz.prog (Instr.loadAt 83 t7) w fun t21 w =>
  o1 Tryz.prog (Instr.loadAt 49 t9) w fun t22 w =>
  C Tryz.prog N.isthmusref11_VerifyVote #[t19, t20, t21, t22] w fun t23 w =>
  mv t23 fun t11_1 =>
  k1 [t11_1] w) (fun _ =>
  k1 [t11] w)) fun x1 w =>
  mv (x1 11) fun t24 =>
  o1 Tryz.prog (bin .neq 3 (.tmp 24) (.const (.int .i64 0)) t24 (.int .i64 0)) w fun t25 w =>
  br t25 (fun _ =>
  mv (x1 11) fun t26 =>
  mv t26 fun t10_1 =>
  k t10_1 w) (fun _ =>
  o1 Tryz.prog (Instr.fieldAt 49 t8 0) w fun t27 w =>
  o1 Tryz.prog (Instr.loadAt 3 t27) w fun t28 w =>
  o1 Tryz.prog (Instr.fieldAt 49 t9 0) w fun t29 w =>
  o1 Tryz.prog (Instr.loadAt 3 t29) w fun t30 w =>
  o1 Tryz.prog (bin .neq 3 (.tmp 28) (.tmp 30) t28 t30) w fun t31 w =>
  mv t31 fun t32 =>
  gd t32 false (fun k2 => o1 Tryz.prog (Instr.fieldAt 49 t8 1) w k2) w fun t33 w =>
  gd t32 false (fun k3 => o1 Tryz.prog (Instr.loadAt 3 t33) w k3) w fun t34 w =>
  gd t32 false (fun k4 => o1 Tryz.prog (Instr.fieldAt 49 t9 1) w k4) w fun t35 w =>
  gd t32 false (fun k5 => o1 Tryz.prog (Instr.loadAt 3 t35) w k5) w fun t36 w =>
  gd t32 false (fun k6 => o1 Tryz.prog (bin .neq 3 (.tmp 34) (.tmp 36) t34 t36) w k6) w fun t37 w =>
  pk t32 (.bool true) t37 fun t38 =>
  mv t38 fun t39 =>
  gd t39 false (fun k7 => o1 Tryz.prog (Instr.fieldAt 49 t8 2) w k7) w fun t40 w =>
  gd t39 false (fun k8 => o1 Tryz.prog (Instr.loadAt 3 t40) w k8) w fun t41 w =>
  gd t39 false (fun k9 => o1 Tryz.prog (Instr.fieldAt 49 t9 2) w k9) w fun t42 w =>
  gd t39 false (fun k10 => o1 Tryz.prog (Instr.loadAt 3 t42) w k10) w fun t43 w =>
  gd t39 false (fun k11 => o1 Tryz.prog (bin .neq 3 (.tmp 41) (.tmp 43) t41 t43) w k11) w fun t44 w =>
  pk t39 (.bool true) t44 fun t45 =>
  mv t45 fun t46 =>
  gd t46 false (fun k12 => o1 Tryz.prog (Instr.fieldAt 49 t8 4) w k12) w fun t47 w =>
  gd t46 false (fun k13 => o1 Tryz.prog (Instr.loadAt 3 t47) w k13) w fun t48 w =>
  gd t46 false (fun k14 => o1 Tryz.prog (Instr.fieldAt 49 t9 4) w k14) w fun t49 w =>
  gd t46 false (fun k15 => o1 Tryz.prog (Instr.loadAt 3 t49) w k15) w fun t50 w =>
  gd t46 false (fun k16 => o1 Tryz.prog (bin .neq 3 (.tmp 48) (.tmp 50) t48 t50) w k16) w fun t51 w =>
  pk t46 (.bool true) t51 fun t52 =>
  mv t52 fun t53 =>
  gd t53 false (fun k17 => o1 Tryz.prog (Instr.fieldAt 49 t8 3) w k17) w fun t54 w =>
  gd t53 false (fun k18 => o1 Tryz.prog (Instr.loadAt 23 t54) w k18) w fun t55 w =>
  gd t53 false (fun k19 => o1 Tryz.prog (Instr.fieldAt 49 t9 3) w k19) w fun t56 w =>
  gd t53 false (fun k20 => o1 Tryz.prog (Instr.loadAt 23 t56) w k20) w fun t57 w =>
  gd t53 false (fun k21 => o1 Tryz.prog (bin .eql 23 (.tmp 55) (.tmp 57) t55 t57) w k21) w fun t58 w =>
  pk t53 (.bool true) t58 fun t59 =>
  br t59 (fun _ =>
  mv (.int .i64 31) fun t10_2 =>
  k t10_2 w) (fun _ =>
  mv (.int .i64 0) fun t10_3 =>
  k t10_3 w))
theorem C.isthmusref11_TwoWays {k : Value → World → Prop} {a0 a1 a2 a3 a4 : Value} {w : World} (h : F.isthmusref11_TwoWays k a0 a1 a2 a3 a4 w) : C Tryz.prog N.isthmusref11_TwoWays #[a0, a1, a2, a3, a4] w k :=
  den_calls (H := { moves := [], vars := [10, 11] }) (args := [a0, a1, a2, a3, a4]) mixed Tryz.func46 (by kernel_rfl) (by kernel_rfl) (by kernel_rfl) h

-- isthmus/types.VoteBytes
def F.types_VoteBytes (k : Value → World → Prop) (a0 a1 : Value) (w : World) : Prop :=
  o1 Tryz.prog (Instr.box 49 a1) w fun t3 w =>
  mv (.slice none 0 0) fun t4 =>
  dr w.drew fun S1 =>
  mv a0 fun t7 =>
  tk Tryz.prog S1 (Instr.fieldAt 49 t3 0) fun t9 =>
  tk Tryz.prog S1 (Instr.loadAt 3 t9) fun t10 =>
  tk Tryz.prog S1 (Instr.fieldAt 49 t3 1) fun t12 =>
  tk Tryz.prog S1 (Instr.loadAt 3 t12) fun t13 =>
  tk Tryz.prog S1 (Instr.fieldAt 49 t3 2) fun t15 =>
  tk Tryz.prog S1 (Instr.loadAt 3 t15) fun t16 =>
  tk Tryz.prog S1 (Instr.fieldAt 49 t3 3) fun t18 =>
  tk Tryz.prog S1 (Instr.loadAt 23 t18) fun t19 =>
  C Tryz.prog N.pack_New #[] w.drew fun t5 w =>
  S1 w ∧
  C Tryz.prog N.pack_Writer_Text #[t5, .string ⟨#[118, 111, 116, 101]⟩] w fun t6 w =>
  S1 w ∧
  C Tryz.prog N.pack_Writer_Text #[t6, t7] w fun t8 w =>
  S1 w ∧
  C Tryz.prog N.pack_Writer_Int #[t8, t10] w fun t11 w =>
  S1 w ∧
  C Tryz.prog N.pack_Writer_Int #[t11, t13] w fun t14 w =>
  S1 w ∧
  C Tryz.prog N.pack_Writer_Int #[t14, t16] w fun t17 w =>
  S1 w ∧
  C Tryz.prog N.pack_Writer_Hash #[t17, t19] w fun t20 w =>
  S1 w ∧
  C Tryz.prog N.pack_Writer_Done #[t20] w fun t21 w =>
  S1 w ∧
  mv t21 fun t4_1 =>
  k t4_1 w
theorem C.types_VoteBytes {k : Value → World → Prop} {a0 a1 : Value} {w : World} (h : F.types_VoteBytes k a0 a1 w) : C Tryz.prog N.types_VoteBytes #[a0, a1] w k :=
  den_calls (H := { moves := [(1, (.take 2 (.take 4 (.take 5 (.take 7 (.take 8 (.take 10 (.take 11 (.take 13 (.take 14 (.force 0 (.force 1 (.force 3 (.force 6 (.force 9 (.force 12 (.force 15 (.force 16 (.take 17 .fin)))))))))))))))))))], vars := [4] }) (args := [a0, a1]) mixed Tryz.func47 (by kernel_rfl) (by kernel_rfl) (by kernel_rfl) h

-- isthmus/isthmusref11.VoteBytes
def F.isthmusref11_VoteBytes (k : Value → World → Prop) (a0 a1 : Value) (w : World) : Prop :=
  o1 Tryz.prog (Instr.box 49 a1) w fun t3 w =>
  mv (.slice none 0 0) fun t4 =>
  C Tryz.prog N.isthmusref02_Text #[.slice none 0 0, .string ⟨#[118, 111, 116, 101]⟩] w fun t6 w =>
  mv a0 fun t7 =>
  C Tryz.prog N.isthmusref02_Text #[t6, t7] w fun t8 w =>
  mv t8 fun t5 =>
  dr w.drew fun S1 =>
  mv t5 fun t9 =>
  tk Tryz.prog S1 (Instr.fieldAt 49 t3 0) fun t10 =>
  tk Tryz.prog S1 (Instr.loadAt 3 t10) fun t11 =>
  tk Tryz.prog S1 (Instr.fieldAt 49 t3 1) fun t13 =>
  tk Tryz.prog S1 (Instr.loadAt 3 t13) fun t14 =>
  tk Tryz.prog S1 (Instr.fieldAt 49 t3 2) fun t16 =>
  tk Tryz.prog S1 (Instr.loadAt 3 t16) fun t17 =>
  tk Tryz.prog S1 (Instr.fieldAt 49 t3 3) fun t19 =>
  tk Tryz.prog S1 (Instr.loadAt 23 t19) fun t20 =>
  C Tryz.prog N.isthmusref02_Int #[t9, t11] w.drew fun t12 w =>
  S1 w ∧
  C Tryz.prog N.isthmusref02_Int #[t12, t14] w fun t15 w =>
  S1 w ∧
  C Tryz.prog N.isthmusref02_Int #[t15, t17] w fun t18 w =>
  S1 w ∧
  C Tryz.prog N.isthmusref02_Hash #[t18, t20] w fun t21 w =>
  S1 w ∧
  mv t21 fun t4_1 =>
  k t4_1 w
theorem C.isthmusref11_VoteBytes {k : Value → World → Prop} {a0 a1 : Value} {w : World} (h : F.isthmusref11_VoteBytes k a0 a1 w) : C Tryz.prog N.isthmusref11_VoteBytes #[a0, a1] w k :=
  den_calls (H := { moves := [(2, (.take 0 (.take 1 (.take 2 (.take 4 (.take 5 (.take 7 (.take 8 (.take 10 (.take 11 (.force 3 (.force 6 (.force 9 (.force 12 (.take 13 .fin)))))))))))))))], vars := [4, 5] }) (args := [a0, a1]) mixed Tryz.func48 (by kernel_rfl) (by kernel_rfl) (by kernel_rfl) h

-- errors.As
def F.errors_As (k : Value → World → Prop) (a0 a1 : Value) (w : World) : Prop :=
  mv (.bool false) fun t4 =>
  mv a0 fun t8 =>
  o1 Tryz.prog (bin .eql 34 (.tmp 8) (.const .nilIface) t8 .nilIface) w fun t9 w =>
  br t9 (fun _ =>
  mv (.bool false) fun t4_1 =>
  k t4_1 w) (fun _ =>
  mv a1 fun t10 =>
  o1 Tryz.prog (bin .eql 20 (.tmp 10) (.const .nilIface) t10 .nilIface) w fun t11 w =>
  jn (fun x1 => []) (fun k1 =>
  br t11 (fun _ =>
  o1 Tryz.prog (Instr.makeInterface 9 (.string ⟨#[101, 114, 114, 111, 114, 115, 58, 32, 116, 97, 114, 103, 101, 116, 32, 99, 97, 110, 110, 111, 116, 32, 98, 101, 32, 110, 105, 108]⟩)) w fun t12 w =>
  False) (fun _ =>
  k1 [] w)) fun x1 w =>
  mv a1 fun t13 =>
  oN Tryz.prog (callFunc N.internal_reflectlite_ValueOf #[t13]) w fun t14 w =>
  o1 Tryz.prog (Instr.alloc 159 true (.tuple #[])) w fun t5 w =>
  o0 Tryz.prog (Instr.storeAt 159 t5 t14) w fun _ w =>
  o1 Tryz.prog (Instr.loadAt 159 t5) w fun t15 w =>
  oN Tryz.prog (callFunc N.internal_reflectlite_Value_Type #[t15]) w fun t16 w =>
  mv t16 fun t6 =>
  mv t6 fun t17 =>
  iv Tryz.prog t17 "Kind" #[] w fun t18 w =>
  o1 Tryz.prog (bin .neq 164 (.tmp 18) (.const (.int .u8 22)) t18 (.int .u8 22)) w fun t19 w =>
  mv t19 fun t20 =>
  gd t20 false (fun k2 => o1 Tryz.prog (Instr.loadAt 159 t5) w k2) w fun t21 w =>
  gd t20 false (fun k3 => oN Tryz.prog (callFunc N.internal_reflectlite_Value_IsNil #[t21]) w k3) w fun t22 w =>
  pk t20 (.bool true) t22 fun t23 =>
  jn (fun x2 => []) (fun k4 =>
  br t23 (fun _ =>
  o1 Tryz.prog (Instr.makeInterface 9 (.string ⟨#[101, 114, 114, 111, 114, 115, 58, 32, 116, 97, 114, 103, 101, 116, 32, 109, 117, 115, 116, 32, 98, 101, 32, 97, 32, 110, 111, 110, 45, 110, 105, 108, 32, 112, 111, 105, 110, 116, 101, 114]⟩)) w fun t24 w =>
  False) (fun _ =>
  k4 [] w)) fun x2 w =>
  mv t6 fun t25 =>
  iv Tryz.prog t25 "Elem" #[] w fun t26 w =>
  mv t26 fun t7 =>
  mv t7 fun t27 =>
  iv Tryz.prog t27 "Kind" #[] w fun t28 w =>
  o1 Tryz.prog (bin .neq 164 (.tmp 28) (.const (.int .u8 20)) t28 (.int .u8 20)) w fun t29 w =>
  mv t29 fun t30 =>
  gd t30 true (fun k5 => mv t7 fun v => k5 v w) w fun t31 w =>
  gd t30 true (fun k6 => o1 Tryz.prog (Instr.loadAt 162 (.pointer (some ⟨0, 0, none⟩))) w k6) w fun t32 w =>
  gd t30 true (fun k7 => iv Tryz.prog t31 "Implements" #[t32] w k7) w fun t33 w =>
  gd t30 true (fun k8 => o1 Tryz.prog (Op.unary .not t33) w k8) w fun t34 w =>
  pk t30 t34 (.bool false) fun t35 =>
  jn (fun x3 => []) (fun k9 =>
  br t35 (fun _ =>
  o1 Tryz.prog (Instr.makeInterface 9 (.string ⟨#[101, 114, 114, 111, 114, 115, 58, 32, 42, 116, 97, 114, 103, 101, 116, 32, 109, 117, 115, 116, 32, 98, 101, 32, 105, 110, 116, 101, 114, 102, 97, 99, 101, 32, 111, 114, 32, 105, 109, 112, 108, 101, 109, 101, 110, 116, 32, 101, 114, 114, 111, 114]⟩)) w fun t36 w =>
  False) (fun _ =>
  k9 [] w)) fun x3 w =>
  mv a0 fun t37 =>
  mv a1 fun t38 =>
  o1 Tryz.prog (Instr.loadAt 159 t5) w fun t39 w =>
  mv t7 fun t40 =>
  C Tryz.prog N.errors_as #[t37, t38, t39, t40] w fun t41 w =>
  mv t41 fun t4_2 =>
  k t4_2 w)
theorem C.errors_As {k : Value → World → Prop} {a0 a1 : Value} {w : World} (h : F.errors_As k a0 a1 w) : C Tryz.prog N.errors_As #[a0, a1] w k :=
  den_calls (H := { moves := [], vars := [4, 6, 7] }) (args := [a0, a1]) mixed Tryz.func49 (by kernel_rfl) (by kernel_rfl) (by kernel_rfl) h

-- isthmus/types.CheckBlock$1
-- isthmus/types.named
def F.types_named (k : Value → World → Prop) (a0 : Value) (w : World) : Prop :=
  mv (.bool false) fun t2 =>
  mv a0 fun t3 =>
  o1 Tryz.prog (Builtin.len_ #[9] 3 #[t3]) w fun t4 w =>
  o1 Tryz.prog (bin .geq 3 (.tmp 4) (.const (.int .i64 1)) t4 (.int .i64 1)) w fun t5 w =>
  mv t5 fun t6 =>
  gd t6 true (fun k1 => mv a0 fun v => k1 v w) w fun t7 w =>
  gd t6 true (fun k2 => o1 Tryz.prog (Builtin.len_ #[9] 3 #[t7]) w k2) w fun t8 w =>
  gd t6 true (fun k3 => o1 Tryz.prog (bin .leq 3 (.tmp 8) (.const (.int .i64 64)) t8 (.int .i64 64)) w k3) w fun t9 w =>
  pk t6 t9 (.bool false) fun t10 =>
  mv t10 fun t11 =>
  gd t11 true (fun k4 => mv a0 fun v => k4 v w) w fun t12 w =>
  gd t11 true (fun k5 => o1 Tryz.prog (convert 9 39 t12) w k5) w fun t13 w =>
  gd t11 true (fun k6 => C Tryz.prog N.slices_ContainsFunc_bytes #[t13, .func (.func 111) #[] #[]] w k6) w fun t14 w =>
  gd t11 true (fun k7 => o1 Tryz.prog (Op.unary .not t14) w k7) w fun t15 w =>
  pk t11 t15 (.bool false) fun t16 =>
  mv t16 fun t2_1 =>
  k t2_1 w
theorem C.types_named {k : Value → World → Prop} {a0 : Value} {w : World} (h : F.types_named k a0 w) : C Tryz.prog N.types_named #[a0] w k :=
  den_calls (H := { moves := [], vars := [2] }) (args := [a0]) mixed Tryz.func51 (by kernel_rfl) (by kernel_rfl) (by kernel_rfl) h

-- slices.ContainsFunc[[][]byte,[]byte]
-- isthmus/types.fault
def F.types_fault (k : Value → World → Prop) (a0 a1 : Value) (w : World) : Prop :=
  mv .nilIface fun t4 =>
  mv a0 fun t5 =>
  mv a1 fun t6 =>
  o1 Tryz.prog (Instr.makeInterface 93 t6) w fun t7 w =>
  o1 Tryz.prog (Instr.build 173 #[(0, t5), (1, t7)]) w fun t8 w =>
  o1 Tryz.prog (Instr.box 173 t8) w fun t9 w =>
  o1 Tryz.prog (Instr.makeInterface 171 t9) w fun t10 w =>
  mv t10 fun t4_1 =>
  k t4_1 w
theorem C.types_fault {k : Value → World → Prop} {a0 a1 : Value} {w : World} (h : F.types_fault k a0 a1 w) : C Tryz.prog N.types_fault #[a0, a1] w k :=
  den_calls (H := { moves := [], vars := [4] }) (args := [a0, a1]) mixed Tryz.func53 (by kernel_rfl) (by kernel_rfl) (by kernel_rfl) h

-- isthmus/isthmusref11.Named
-- isthmus/sha.Leaf
def F.sha_Leaf (k : Value → World → Prop) (a0 : Value) (w : World) : Prop :=
  o1 Tryz.prog (Instr.alloc 23 true (.tuple #[])) w fun t2 w =>
  o1 Tryz.prog (Instr.buildSlice 39 1 #[(0, .int .u8 0)]) w fun t3 w =>
  mv a0 fun t4 =>
  ob Tryz.prog (fun _ => Builtin.append_ #[39, 39] 39 #[t3, t4]) w fun t5 w =>
  C Tryz.prog N.sha_Sum #[t5] w fun t6 w =>
  o0 Tryz.prog (Instr.storeAt 23 t2 t6) w fun _ w =>
  rc Tryz.prog 23 t2 w fun r0 =>
  k r0 w
theorem C.sha_Leaf {k : Value → World → Prop} {a0 : Value} {w : World} (h : F.sha_Leaf k a0 w) : C Tryz.prog N.sha_Leaf #[a0] w k :=
  den_calls (H := { moves := [], vars := [] }) (args := [a0]) mixed Tryz.func55 (by kernel_rfl) (by kernel_rfl) (by kernel_rfl) h

-- isthmus/sha.Root
-- isthmus/isthmusref01.Leaf
def F.isthmusref01_Leaf (k : Value → World → Prop) (a0 : Value) (w : World) : Prop :=
  o1 Tryz.prog (Instr.alloc 23 true (.tuple #[])) w fun t2 w =>
  o1 Tryz.prog (Instr.buildSlice 39 1 #[(0, .int .u8 0)]) w fun t3 w =>
  mv a0 fun t4 =>
  ob Tryz.prog (fun _ => Builtin.append_ #[39, 39] 39 #[t3, t4]) w fun t5 w =>
  C Tryz.prog N.isthmusref01_Sum #[t5] w fun t6 w =>
  o0 Tryz.prog (Instr.storeAt 23 t2 t6) w fun _ w =>
  rc Tryz.prog 23 t2 w fun r0 =>
  k r0 w
theorem C.isthmusref01_Leaf {k : Value → World → Prop} {a0 : Value} {w : World} (h : F.isthmusref01_Leaf k a0 w) : C Tryz.prog N.isthmusref01_Leaf #[a0] w k :=
  den_calls (H := { moves := [], vars := [] }) (args := [a0]) mixed Tryz.func57 (by kernel_rfl) (by kernel_rfl) (by kernel_rfl) h

-- isthmus/isthmusref01.Root
-- isthmus/sha.Sum
def F.sha_Sum (k : Value → World → Prop) (a0 : Value) (w : World) : Prop :=
  o1 Tryz.prog (Instr.alloc 23 true (.tuple #[])) w fun t2 w =>
  C Tryz.prog N.sha_start #[] w fun t5 w =>
  mv a0 fun t6 =>
  o1 Tryz.prog (Builtin.len_ #[39] 3 #[t6]) w fun t7 w =>
  o1 Tryz.prog (convert 3 105 t7) w fun t8 w =>
  o1 Tryz.prog (Instr.alloc 178 true (.tuple #[])) w fun t3 w =>
  o0 Tryz.prog (Instr.storeAt 178 t3 t5) w fun _ w =>
  mv t8 fun t4 =>
  lp [a0] w fun I1 μ1 => ∀ (x1 : Env) (w1 : World), I1 [x1 0] w1 →
  mv (x1 0) fun t9 =>
  o1 Tryz.prog (Builtin.len_ #[39] 3 #[t9]) w1 fun t10 w =>
  o1 Tryz.prog (bin .geq 3 (.tmp 10) (.const (.int .i64 64)) t10 (.int .i64 64)) w fun t11 w =>
  br t11 (fun _ =>
  mv (x1 0) fun t12 =>
  o1 Tryz.prog (Instr.sliceAt 39 t12 none (some (.int .i64 64)) none) w fun t13 w =>
  C Tryz.prog N.sha_words_mix #[t3, t13] w fun t14 w =>
  mv (x1 0) fun t15 =>
  o1 Tryz.prog (Instr.sliceAt 39 t15 (some (.int .i64 64)) none none) w fun t16 w =>
  mv t16 fun t0 =>
  I1 [t0] w ∧ μ1 [t0] w < μ1 [x1 0] w1) (fun _ =>
  o1 Tryz.prog (Instr.loadAt 178 t3) w fun t17 w =>
  mv (x1 0) fun t18 =>
  mv t4 fun t19 =>
  C Tryz.prog N.sha_words_end #[t17, t18, t19] w fun t20 w =>
  o0 Tryz.prog (Instr.storeAt 23 t2 t20) w fun _ w =>
  rc Tryz.prog 23 t2 w fun r0 =>
  k r0 w)
theorem C.sha_Sum {k : Value → World → Prop} {a0 : Value} {w : World} (h : F.sha_Sum k a0 w) : C Tryz.prog N.sha_Sum #[a0] w k :=
  den_calls (H := { moves := [], vars := [0, 4] }) (args := [a0]) mixed Tryz.func59 (by kernel_rfl) (by kernel_rfl) (by kernel_rfl) h

-- isthmus/isthmusref01.Sum
def F.isthmusref01_Sum (k : Value → World → Prop) (a0 : Value) (w : World) : Prop :=
  o1 Tryz.prog (Instr.alloc 23 true (.tuple #[])) w fun t2 w =>
  C Tryz.prog N.isthmusref01_constants #[] w fun t24 w =>
  mv t24 fun t23 =>
  o1 Tryz.prog (Instr.extract t23 0) w fun t25 w =>
  o1 Tryz.prog (Instr.extract t23 1) w fun t26 w =>
  o1 Tryz.prog (Instr.alloc 182 true (.tuple #[])) w fun t3 w =>
  o1 Tryz.prog (Instr.alloc 177 true (.tuple #[])) w fun t4 w =>
  o0 Tryz.prog (Instr.storeAt 182 t3 t25) w fun _ w =>
  o0 Tryz.prog (Instr.storeAt 177 t4 t26) w fun _ w =>
  mv (.slice none 0 0) fun t5 =>
  mv t5 fun t27 =>
  mv a0 fun t28 =>
  ob Tryz.prog (fun _ => Builtin.append_ #[39, 39] 39 #[t27, t28]) w fun t29 w =>
  o1 Tryz.prog (Instr.buildSlice 39 1 #[(0, .int .u8 128)]) w fun t30 w =>
  ob Tryz.prog (fun _ => Builtin.append_ #[39, 39] 39 #[t29, t30]) w fun t31 w =>
  mv t31 fun t5_1 =>
  lp [t5_1] w fun I1 μ1 => ∀ (x1 : Env) (w1 : World), I1 [x1 5] w1 →
  mv (x1 5) fun t32 =>
  o1 Tryz.prog (Builtin.len_ #[39] 3 #[t32]) w1 fun t33 w =>
  o1 Tryz.prog (bin .rem 3 (.tmp 33) (.const (.int .i64 64)) t33 (.int .i64 64)) w fun t34 w =>
  o1 Tryz.prog (bin .neq 3 (.tmp 34) (.const (.int .i64 56)) t34 (.int .i64 56)) w fun t35 w =>
  br t35 (fun _ =>
  mv (x1 5) fun t36 =>
  o1 Tryz.prog (Instr.buildSlice 39 1 #[(0, .int .u8 0)]) w fun t37 w =>
  ob Tryz.prog (fun _ => Builtin.append_ #[39, 39] 39 #[t36, t37]) w fun t38 w =>
  mv t38 fun t5_2 =>
  I1 [t5_2] w ∧ μ1 [t5_2] w < μ1 [x1 5] w1) (fun _ =>
  mv a0 fun t39 =>
  o1 Tryz.prog (Builtin.len_ #[39] 3 #[t39]) w fun t40 w =>
  o1 Tryz.prog (convert 3 105 t40) w fun t41 w =>
  o1 Tryz.prog (bin .mul 105 (.tmp 41) (.const (.int .u64 8)) t41 (.int .u64 8)) w fun t42 w =>
  mv t42 fun t6 =>
  mv (.int .i64 7) fun t7 =>
  lp [(x1 5), t7] w fun I2 μ2 => ∀ (x2 : Env) (w2 : World), I2 [x2 5, x2 7] w2 →
  mv (x2 7) fun t43 =>
  o1 Tryz.prog (bin .geq 3 (.tmp 43) (.const (.int .i64 0)) t43 (.int .i64 0)) w2 fun t44 w =>
  br t44 (fun _ =>
  mv (x2 5) fun t47 =>
  mv t6 fun t48 =>
  mv (x2 7) fun t49 =>
  o1 Tryz.prog (bin .mul 3 (.const (.int .i64 8)) (.tmp 49) (.int .i64 8) t49) w fun t50 w =>
  o1 Tryz.prog (convert 3 185 t50) w fun t51 w =>
  o1 Tryz.prog (bin .shr 105 (.tmp 48) (.tmp 51) t48 t51) w fun t52 w =>
  o1 Tryz.prog (convert 105 5 t52) w fun t53 w =>
  o1 Tryz.prog (Instr.buildSlice 39 1 #[(0, t53)]) w fun t54 w =>
  ob Tryz.prog (fun _ => Builtin.append_ #[39, 39] 39 #[t47, t54]) w fun t55 w =>
  mv t55 fun t5_3 =>
  mv (x2 7) fun t45 =>
  o1 Tryz.prog (bin .sub 3 (.tmp 45) (.const (.int .i64 1)) t45 (.int .i64 1)) w fun t46 w =>
  mv t46 fun t7_1 =>
  I2 [t5_3, t7_1] w ∧ μ2 [t5_3, t7_1] w < μ2 [x2 5, x2 7] w2) (fun _ =>
  mv (.int .i64 0) fun t8 =>
  lp [t8, undef, undef, undef, undef, undef, undef, undef, undef, undef, undef] w fun I3 μ3 => ∀ (x3 : Env) (w3 : World), I3 [x3 8, x3 10, x3 11, x3 12, x3 13, x3 15, x3 16, x3 17, x3 18, x3 19, x3 20] w3 →
  mv (x3 8) fun t56 =>
  mv (x2 5) fun t57 =>
  o1 Tryz.prog (Builtin.len_ #[39] 3 #[t57]) w3 fun t58 w =>
  o1 Tryz.prog (bin .lss 3 (.tmp 56) (.tmp 58) t56 t58) w fun t59 w =>
  br t59 (fun _ =>
  o1 Tryz.prog (Instr.alloc 182 true (.tuple #[])) w fun t9 w =>
  mv (.int .i64 0) fun t10 =>
  lp [t10, (x3 11), (x3 12), (x3 13)] w fun I4 μ4 => ∀ (x4 : Env) (w4 : World), I4 [x4 10, x4 11, x4 12, x4 13] w4 →
  mv (x4 10) fun t62 =>
  o1 Tryz.prog (bin .lss 3 (.tmp 62) (.const (.int .i64 64)) t62 (.int .i64 64)) w4 fun t63 w =>
  br t63 (fun _ =>
  jn (fun x5 => [x5 11, x5 12, x5 13]) (fun k1 =>
  mv (x4 10) fun t66 =>
  o1 Tryz.prog (bin .lss 3 (.tmp 66) (.const (.int .i64 16)) t66 (.int .i64 16)) w fun t67 w =>
  br t67 (fun _ =>
  mv (x3 8) fun t68 =>
  mv (x4 10) fun t69 =>
  o1 Tryz.prog (bin .mul 3 (.const (.int .i64 4)) (.tmp 69) (.int .i64 4) t69) w fun t70 w =>
  o1 Tryz.prog (bin .add 3 (.tmp 68) (.tmp 70) t68 t70) w fun t71 w =>
  mv t71 fun t11 =>
  dr w.drew fun S1 =>
  mv (x4 10) fun t72 =>
  mv (x2 5) fun t73 =>
  mv t11 fun t74 =>
  tk Tryz.prog S1 (Instr.indexAt 39 t73 t74) fun t75 =>
  tk Tryz.prog S1 (Instr.loadAt 5 t75) fun t76 =>
  tk Tryz.prog S1 (convert 5 176 t76) fun t77 =>
  tk Tryz.prog S1 (bin .shl 176 (.tmp 77) (.const (.int .u64 24)) t77 (.int .u64 24)) fun t78 =>
  mv (x2 5) fun t79 =>
  mv t11 fun t80 =>
  tk Tryz.prog S1 (bin .add 3 (.tmp 80) (.const (.int .i64 1)) t80 (.int .i64 1)) fun t81 =>
  tk Tryz.prog S1 (Instr.indexAt 39 t79 t81) fun t82 =>
  tk Tryz.prog S1 (Instr.loadAt 5 t82) fun t83 =>
  tk Tryz.prog S1 (convert 5 176 t83) fun t84 =>
  tk Tryz.prog S1 (bin .shl 176 (.tmp 84) (.const (.int .u64 16)) t84 (.int .u64 16)) fun t85 =>
  tk Tryz.prog S1 (bin .or 176 (.tmp 78) (.tmp 85) t78 t85) fun t86 =>
  mv (x2 5) fun t87 =>
  mv t11 fun t88 =>
  tk Tryz.prog S1 (bin .add 3 (.tmp 88) (.const (.int .i64 2)) t88 (.int .i64 2)) fun t89 =>
  tk Tryz.prog S1 (Instr.indexAt 39 t87 t89) fun t90 =>
  tk Tryz.prog S1 (Instr.loadAt 5 t90) fun t91 =>
  tk Tryz.prog S1 (convert 5 176 t91) fun t92 =>
  tk Tryz.prog S1 (bin .shl 176 (.tmp 92) (.const (.int .u64 8)) t92 (.int .u64 8)) fun t93 =>
  tk Tryz.prog S1 (bin .or 176 (.tmp 86) (.tmp 93) t86 t93) fun t94 =>
  mv (x2 5) fun t95 =>
  mv t11 fun t96 =>
  tk Tryz.prog S1 (bin .add 3 (.tmp 96) (.const (.int .i64 3)) t96 (.int .i64 3)) fun t97 =>
  tk Tryz.prog S1 (Instr.indexAt 39 t95 t97) fun t98 =>
  tk Tryz.prog S1 (Instr.loadAt 5 t98) fun t99 =>
  tk Tryz.prog S1 (convert 5 176 t99) fun t100 =>
  tk Tryz.prog S1 (bin .or 176 (.tmp 94) (.tmp 100) t94 t100) fun t101 =>
  tk Tryz.prog S1 (Instr.indexAt 182 t9 t72) fun t102 =>
  o0 Tryz.prog (Instr.storeAt 176 t102 t101) w.drew fun _ w =>
  k1 [t11, (x4 12), (x4 13)] w) (fun _ =>
  mv (x4 10) fun t103 =>
  tk Tryz.prog (fun w' => w' = w.drew) (bin .sub 3 (.tmp 103) (.const (.int .i64 15)) t103 (.int .i64 15)) fun t104 =>
  tk Tryz.prog (fun w' => w' = w.drew) (Instr.indexAt 182 t9 t104) fun t105 =>
  tk Tryz.prog (fun w' => w' = w.drew) (Instr.loadAt 176 t105) fun t106 =>
  mv (x4 10) fun t107 =>
  tk Tryz.prog (fun w' => w' = w.drew) (bin .sub 3 (.tmp 107) (.const (.int .i64 2)) t107 (.int .i64 2)) fun t108 =>
  tk Tryz.prog (fun w' => w' = w.drew) (Instr.indexAt 182 t9 t108) fun t109 =>
  tk Tryz.prog (fun w' => w' = w.drew) (Instr.loadAt 176 t109) fun t110 =>
  mv t106 fun t12 =>
  mv t110 fun t13 =>
  dr w.drew.drew fun S2 =>
  mv (x4 10) fun t111 =>
  mv t13 fun t112 =>
  mv t13 fun t114 =>
  mv t13 fun t117 =>
  tk Tryz.prog S2 (bin .shr 176 (.tmp 117) (.const (.int .u64 10)) t117 (.int .u64 10)) fun t118 =>
  mv (x4 10) fun t120 =>
  tk Tryz.prog S2 (bin .sub 3 (.tmp 120) (.const (.int .i64 7)) t120 (.int .i64 7)) fun t121 =>
  tk Tryz.prog S2 (Instr.indexAt 182 t9 t121) fun t122 =>
  tk Tryz.prog S2 (Instr.loadAt 176 t122) fun t123 =>
  mv t12 fun t125 =>
  mv t12 fun t127 =>
  mv t12 fun t130 =>
  tk Tryz.prog S2 (bin .shr 176 (.tmp 130) (.const (.int .u64 3)) t130 (.int .u64 3)) fun t131 =>
  mv (x4 10) fun t134 =>
  tk Tryz.prog S2 (bin .sub 3 (.tmp 134) (.const (.int .i64 16)) t134 (.int .i64 16)) fun t135 =>
  tk Tryz.prog S2 (Instr.indexAt 182 t9 t135) fun t136 =>
  tk Tryz.prog S2 (Instr.loadAt 176 t136) fun t137 =>
  C Tryz.prog N.isthmusref01_turn #[t112, .int .u64 17] w.drew.drew fun t113 w =>
  S2 w ∧
  C Tryz.prog N.isthmusref01_turn #[t114, .int .u64 19] w fun t115 w =>
  S2 w ∧
  tk Tryz.prog S2 (bin .xor 176 (.tmp 113) (.tmp 115) t113 t115) fun t116 =>
  tk Tryz.prog S2 (bin .xor 176 (.tmp 116) (.tmp 118) t116 t118) fun t119 =>
  tk Tryz.prog S2 (bin .add 176 (.tmp 119) (.tmp 123) t119 t123) fun t124 =>
  C Tryz.prog N.isthmusref01_turn #[t125, .int .u64 7] w fun t126 w =>
  S2 w ∧
  C Tryz.prog N.isthmusref01_turn #[t127, .int .u64 18] w fun t128 w =>
  S2 w ∧
  tk Tryz.prog S2 (bin .xor 176 (.tmp 126) (.tmp 128) t126 t128) fun t129 =>
  tk Tryz.prog S2 (bin .xor 176 (.tmp 129) (.tmp 131) t129 t131) fun t132 =>
  tk Tryz.prog S2 (bin .add 176 (.tmp 124) (.tmp 132) t124 t132) fun t133 =>
  tk Tryz.prog S2 (bin .add 176 (.tmp 133) (.tmp 137) t133 t137) fun t138 =>
  tk Tryz.prog S2 (Instr.indexAt 182 t9 t111) fun t139 =>
  o0 Tryz.prog (Instr.storeAt 176 t139 t138) w fun _ w =>
  k1 [(x4 11), t12, t13] w)) fun x5 w =>
  mv (x4 10) fun t64 =>
  o1 Tryz.prog (bin .add 3 (.tmp 64) (.const (.int .i64 1)) t64 (.int .i64 1)) w fun t65 w =>
  mv t65 fun t10_1 =>
  I4 [t10_1, (x5 11), (x5 12), (x5 13)] w ∧ μ4 [t10_1, (x5 11), (x5 12), (x5 13)] w < μ4 [x4 10, x4 11, x4 12, x4 13] w4) (fun _ =>
  o1 Tryz.prog (Instr.loadAt 177 t4) w fun t140 w =>
  o1 Tryz.prog (Instr.alloc 177 true (.tuple #[])) w fun t14 w =>
  o0 Tryz.prog (Instr.storeAt 177 t14 t140) w fun _ w =>
  mv (.int .i64 0) fun t15 =>
  lp [t15, (x3 16), (x3 17), (x3 18), (x3 19)] w fun I6 μ6 => ∀ (x6 : Env) (w5 : World), I6 [x6 15, x6 16, x6 17, x6 18, x6 19] w5 →
  mv (x6 15) fun t141 =>
  o1 Tryz.prog (bin .lss 3 (.tmp 141) (.const (.int .i64 64)) t141 (.int .i64 64)) w5 fun t142 w =>
  br t142 (fun _ =>
  tk Tryz.prog (fun w' => w' = w.drew) (Instr.indexAt 177 t14 (.int .i64 4)) fun t145 =>
  tk Tryz.prog (fun w' => w' = w.drew) (Instr.loadAt 176 t145) fun t146 =>
  tk Tryz.prog (fun w' => w' = w.drew) (Instr.indexAt 177 t14 (.int .i64 0)) fun t147 =>
  tk Tryz.prog (fun w' => w' = w.drew) (Instr.loadAt 176 t147) fun t148 =>
  mv t146 fun t16 =>
  mv t148 fun t17 =>
  dr w.drew.drew fun S3 =>
  tk Tryz.prog S3 (Instr.indexAt 177 t14 (.int .i64 7)) fun t149 =>
  tk Tryz.prog S3 (Instr.loadAt 176 t149) fun t150 =>
  mv t16 fun t151 =>
  mv t16 fun t153 =>
  mv t16 fun t156 =>
  mv t16 fun t160 =>
  tk Tryz.prog S3 (Instr.indexAt 177 t14 (.int .i64 5)) fun t161 =>
  tk Tryz.prog S3 (Instr.loadAt 176 t161) fun t162 =>
  tk Tryz.prog S3 (bin .and 176 (.tmp 160) (.tmp 162) t160 t162) fun t163 =>
  mv t16 fun t164 =>
  tk Tryz.prog S3 (bin .xor 176 (.const (.int .u32 4294967295)) (.tmp 164) (.int .u32 4294967295) t164) fun t165 =>
  tk Tryz.prog S3 (Instr.indexAt 177 t14 (.int .i64 6)) fun t166 =>
  tk Tryz.prog S3 (Instr.loadAt 176 t166) fun t167 =>
  tk Tryz.prog S3 (bin .and 176 (.tmp 165) (.tmp 167) t165 t167) fun t168 =>
  tk Tryz.prog S3 (bin .or 176 (.tmp 163) (.tmp 168) t163 t168) fun t169 =>
  mv (x6 15) fun t171 =>
  tk Tryz.prog S3 (Instr.indexAt 182 t3 t171) fun t172 =>
  tk Tryz.prog S3 (Instr.loadAt 176 t172) fun t173 =>
  mv (x6 15) fun t175 =>
  tk Tryz.prog S3 (Instr.indexAt 182 t9 t175) fun t176 =>
  tk Tryz.prog S3 (Instr.loadAt 176 t176) fun t177 =>
  C Tryz.prog N.isthmusref01_turn #[t151, .int .u64 6] w.drew.drew fun t152 w =>
  S3 w ∧
  C Tryz.prog N.isthmusref01_turn #[t153, .int .u64 11] w fun t154 w =>
  S3 w ∧
  tk Tryz.prog S3 (bin .xor 176 (.tmp 152) (.tmp 154) t152 t154) fun t155 =>
  C Tryz.prog N.isthmusref01_turn #[t156, .int .u64 25] w fun t157 w =>
  S3 w ∧
  tk Tryz.prog S3 (bin .xor 176 (.tmp 155) (.tmp 157) t155 t157) fun t158 =>
  tk Tryz.prog S3 (bin .add 176 (.tmp 150) (.tmp 158) t150 t158) fun t159 =>
  tk Tryz.prog S3 (bin .add 176 (.tmp 159) (.tmp 169) t159 t169) fun t170 =>
  tk Tryz.prog S3 (bin .add 176 (.tmp 170) (.tmp 173) t170 t173) fun t174 =>
  tk Tryz.prog S3 (bin .add 176 (.tmp 174) (.tmp 177) t174 t177) fun t178 =>
  mv t178 fun t18 =>
  dr w.drew fun S4 =>
  mv t17 fun t179 =>
  mv t17 fun t181 =>
  mv t17 fun t184 =>
  mv t17 fun t187 =>
  tk Tryz.prog S4 (Instr.indexAt 177 t14 (.int .i64 1)) fun t188 =>
  tk Tryz.prog S4 (Instr.loadAt 176 t188) fun t189 =>
  tk Tryz.prog S4 (bin .and 176 (.tmp 187) (.tmp 189) t187 t189) fun t190 =>
  mv t17 fun t191 =>
  tk Tryz.prog S4 (Instr.indexAt 177 t14 (.int .i64 2)) fun t192 =>
  tk Tryz.prog S4 (Instr.loadAt 176 t192) fun t193 =>
  tk Tryz.prog S4 (bin .and 176 (.tmp 191) (.tmp 193) t191 t193) fun t194 =>
  tk Tryz.prog S4 (bin .or 176 (.tmp 190) (.tmp 194) t190 t194) fun t195 =>
  tk Tryz.prog S4 (Instr.indexAt 177 t14 (.int .i64 1)) fun t196 =>
  tk Tryz.prog S4 (Instr.loadAt 176 t196) fun t197 =>
  tk Tryz.prog S4 (Instr.indexAt 177 t14 (.int .i64 2)) fun t198 =>
  tk Tryz.prog S4 (Instr.loadAt 176 t198) fun t199 =>
  tk Tryz.prog S4 (bin .and 176 (.tmp 197) (.tmp 199) t197 t199) fun t200 =>
  tk Tryz.prog S4 (bin .or 176 (.tmp 195) (.tmp 200) t195 t200) fun t201 =>
  C Tryz.prog N.isthmusref01_turn #[t179, .int .u64 2] w.drew fun t180 w =>
  S4 w ∧
  C Tryz.prog N.isthmusref01_turn #[t181, .int .u64 13] w fun t182 w =>
  S4 w ∧
  tk Tryz.prog S4 (bin .xor 176 (.tmp 180) (.tmp 182) t180 t182) fun t183 =>
  C Tryz.prog N.isthmusref01_turn #[t184, .int .u64 22] w fun t185 w =>
  S4 w ∧
  tk Tryz.prog S4 (bin .xor 176 (.tmp 183) (.tmp 185) t183 t185) fun t186 =>
  tk Tryz.prog S4 (bin .add 176 (.tmp 186) (.tmp 201) t186 t201) fun t202 =>
  mv t202 fun t19 =>
  mv t18 fun t203 =>
  mv t19 fun t204 =>
  o1 Tryz.prog (bin .add 176 (.tmp 203) (.tmp 204) t203 t204) w fun t205 w =>
  o1 Tryz.prog (Instr.indexAt 177 t14 (.int .i64 0)) w fun t206 w =>
  o1 Tryz.prog (Instr.loadAt 176 t206) w fun t207 w =>
  o1 Tryz.prog (Instr.indexAt 177 t14 (.int .i64 1)) w fun t208 w =>
  o1 Tryz.prog (Instr.loadAt 176 t208) w fun t209 w =>
  o1 Tryz.prog (Instr.indexAt 177 t14 (.int .i64 2)) w fun t210 w =>
  o1 Tryz.prog (Instr.loadAt 176 t210) w fun t211 w =>
  o1 Tryz.prog (Instr.indexAt 177 t14 (.int .i64 3)) w fun t212 w =>
  o1 Tryz.prog (Instr.loadAt 176 t212) w fun t213 w =>
  mv t18 fun t214 =>
  o1 Tryz.prog (bin .add 176 (.tmp 213) (.tmp 214) t213 t214) w fun t215 w =>
  o1 Tryz.prog (Instr.indexAt 177 t14 (.int .i64 4)) w fun t216 w =>
  o1 Tryz.prog (Instr.loadAt 176 t216) w fun t217 w =>
  o1 Tryz.prog (Instr.indexAt 177 t14 (.int .i64 5)) w fun t218 w =>
  o1 Tryz.prog (Instr.loadAt 176 t218) w fun t219 w =>
  o1 Tryz.prog (Instr.indexAt 177 t14 (.int .i64 6)) w fun t220 w =>
  o1 Tryz.prog (Instr.loadAt 176 t220) w fun t221 w =>
  o1 Tryz.prog (Instr.build 177 #[(0, t205), (1, t207), (2, t209), (3, t211), (4, t215), (5, t217), (6, t219), (7, t221)]) w fun t222 w =>
  o0 Tryz.prog (Instr.storeAt 177 t14 t222) w fun _ w =>
  mv (x6 15) fun t143 =>
  o1 Tryz.prog (bin .add 3 (.tmp 143) (.const (.int .i64 1)) t143 (.int .i64 1)) w fun t144 w =>
  mv t144 fun t15_1 =>
  I6 [t15_1, t16, t17, t18, t19] w ∧ μ6 [t15_1, t16, t17, t18, t19] w < μ6 [x6 15, x6 16, x6 17, x6 18, x6 19] w5) (fun _ =>
  mv (.int .i64 0) fun t20 =>
  lp [t20] w fun I7 μ7 => ∀ (x7 : Env) (w6 : World), I7 [x7 20] w6 →
  mv (x7 20) fun t223 =>
  o1 Tryz.prog (bin .lss 3 (.tmp 223) (.const (.int .i64 8)) t223 (.int .i64 8)) w6 fun t224 w =>
  br t224 (fun _ =>
  dr w.drew fun S5 =>
  mv (x7 20) fun t227 =>
  mv (x7 20) fun t228 =>
  tk Tryz.prog S5 (Instr.indexAt 177 t4 t228) fun t229 =>
  tk Tryz.prog S5 (Instr.loadAt 176 t229) fun t230 =>
  mv (x7 20) fun t231 =>
  tk Tryz.prog S5 (Instr.indexAt 177 t14 t231) fun t232 =>
  tk Tryz.prog S5 (Instr.loadAt 176 t232) fun t233 =>
  tk Tryz.prog S5 (bin .add 176 (.tmp 230) (.tmp 233) t230 t233) fun t234 =>
  tk Tryz.prog S5 (Instr.indexAt 177 t4 t227) fun t235 =>
  o0 Tryz.prog (Instr.storeAt 176 t235 t234) w.drew fun _ w =>
  mv (x7 20) fun t225 =>
  o1 Tryz.prog (bin .add 3 (.tmp 225) (.const (.int .i64 1)) t225 (.int .i64 1)) w fun t226 w =>
  mv t226 fun t20_1 =>
  I7 [t20_1] w ∧ μ7 [t20_1] w < μ7 [x7 20] w6) (fun _ =>
  mv (x3 8) fun t60 =>
  o1 Tryz.prog (bin .add 3 (.tmp 60) (.const (.int .i64 64)) t60 (.int .i64 64)) w fun t61 w =>
  mv t61 fun t8_1 =>
  I3 [t8_1, (x4 10), (x4 11), (x4 12), (x4 13), (x6 15), (x6 16), (x6 17), (x6 18), (x6 19), (x7 20)] w ∧ μ3 [t8_1, (x4 10), (x4 11), (x4 12), (x4 13), (x6 15), (x6 16), (x6 17), (x6 18), (x6 19), (x7 20)] w < μ3 [x3 8, x3 10, x3 11, x3 12, x3 13, x3 15, x3 16, x3 17, x3 18, x3 19, x3 20] w3)))) (fun _ =>
  o1 Tryz.prog (Instr.alloc 23 true (.tuple #[])) w fun t21 w =>
  mv (.int .i64 0) fun t22 =>
  lp [t22] w fun I8 μ8 => ∀ (x8 : Env) (w7 : World), I8 [x8 22] w7 →
  mv (x8 22) fun t236 =>
  o1 Tryz.prog (bin .lss 3 (.tmp 236) (.const (.int .i64 32)) t236 (.int .i64 32)) w7 fun t237 w =>
  br t237 (fun _ =>
  mv (x8 22) fun t240 =>
  mv (x8 22) fun t241 =>
  o1 Tryz.prog (bin .quo 3 (.tmp 241) (.const (.int .i64 4)) t241 (.int .i64 4)) w fun t242 w =>
  o1 Tryz.prog (Instr.indexAt 177 t4 t242) w fun t243 w =>
  o1 Tryz.prog (Instr.loadAt 176 t243) w fun t244 w =>
  mv (x8 22) fun t245 =>
  o1 Tryz.prog (bin .rem 3 (.tmp 245) (.const (.int .i64 4)) t245 (.int .i64 4)) w fun t246 w =>
  o1 Tryz.prog (bin .mul 3 (.const (.int .i64 8)) (.tmp 246) (.int .i64 8) t246) w fun t247 w =>
  o1 Tryz.prog (bin .sub 3 (.const (.int .i64 24)) (.tmp 247) (.int .i64 24) t247) w fun t248 w =>
  o1 Tryz.prog (convert 3 185 t248) w fun t249 w =>
  o1 Tryz.prog (bin .shr 176 (.tmp 244) (.tmp 249) t244 t249) w fun t250 w =>
  o1 Tryz.prog (convert 176 5 t250) w fun t251 w =>
  o1 Tryz.prog (Instr.indexAt 23 t21 t240) w fun t252 w =>
  o0 Tryz.prog (Instr.storeAt 5 t252 t251) w fun _ w =>
  mv (x8 22) fun t238 =>
  o1 Tryz.prog (bin .add 3 (.tmp 238) (.const (.int .i64 1)) t238 (.int .i64 1)) w fun t239 w =>
  mv t239 fun t22_1 =>
  I8 [t22_1] w ∧ μ8 [t22_1] w < μ8 [x8 22] w7) (fun _ =>
  o1 Tryz.prog (Instr.loadAt 23 t21) w fun t253 w =>
  o0 Tryz.prog (Instr.storeAt 23 t2 t253) w fun _ w =>
  rc Tryz.prog 23 t2 w fun r0 =>
  k r0 w))))
theorem C.isthmusref01_Sum {k : Value → World → Prop} {a0 : Value} {w : World} (h : F.isthmusref01_Sum k a0 w) : C Tryz.prog N.isthmusref01_Sum #[a0] w k :=
  den_calls (H := { moves := [(20, (.take 0 (.take 1 (.take 2 (.take 3 (.take 4 (.take 5 (.take 6 (.take 7 (.take 8 (.take 9 (.take 10 (.take 11 (.take 12 (.take 13 (.take 14 (.take 15 (.take 16 (.take 17 (.take 18 (.take 19 (.take 20 (.take 21 (.take 22 (.take 23 (.take 24 (.take 25 (.take 26 (.take 27 (.take 28 (.take 29 (.take 30 (.last 31))))))))))))))))))))))))))))))))), (21, (.take 0 (.take 1 (.take 2 (.take 3 (.take 4 (.take 5 (.take 6 (.take 7 (.take 8 (.take 9 .fin))))))))))), (22, (.take 0 (.take 1 (.take 3 (.take 6 (.take 7 (.take 9 (.take 10 (.take 11 (.take 12 (.take 14 (.take 16 (.take 19 (.take 20 (.take 23 (.take 24 (.take 25 (.take 26 (.force 2 (.force 4 (.take 5 (.take 8 (.take 13 (.force 15 (.force 17 (.take 18 (.take 21 (.take 22 (.take 27 (.take 28 (.last 29))))))))))))))))))))))))))))))), (27, (.take 0 (.take 1 (.take 2 (.take 3 (.take 4 (.take 5 .fin))))))), (28, (.take 0 (.take 1 (.take 2 (.take 4 (.take 7 (.take 11 (.take 12 (.take 13 (.take 14 (.take 15 (.take 16 (.take 17 (.take 18 (.take 19 (.take 20 (.take 22 (.take 23 (.take 24 (.take 26 (.take 27 (.take 28 (.force 3 (.force 5 (.take 6 (.force 8 (.take 9 (.take 10 (.take 21 (.take 25 (.take 29 (.take 30 .fin)))))))))))))))))))))))))))))))), (29, (.take 0 (.take 2 (.take 5 (.take 8 (.take 9 (.take 10 (.take 11 (.take 12 (.take 13 (.take 14 (.take 15 (.take 16 (.take 17 (.take 18 (.take 19 (.take 20 (.take 21 (.take 22 (.force 1 (.force 3 (.take 4 (.force 6 (.take 7 (.take 23 (.take 24 .fin)))))))))))))))))))))))))), (34, (.take 0 (.take 1 (.take 2 (.take 3 (.take 4 (.take 5 (.take 6 (.take 7 (.take 8 (.last 9)))))))))))], vars := [5, 6, 7, 8, 10, 11, 12, 13, 15, 16, 17, 18, 19, 20, 22] }) (args := [a0]) mixed Tryz.func60 (by kernel_rfl) (by kernel_rfl) (by kernel_rfl) h

-- isthmus/types.encode[isthmus/api.Block]
-- isthmus/types.putBlock
-- isthmus/isthmusref02.Uint
def F.isthmusref02_Uint (k : Value → World → Prop) (a0 a1 : Value) (w : World) : Prop :=
  mv (.slice none 0 0) fun t4 =>
  mv (.slice none 0 0) fun t5 =>
  mv t5 fun t6 =>
  mv a0 fun t7 =>
  ob Tryz.prog (fun _ => Builtin.append_ #[39, 39] 39 #[t6, t7]) w fun t8 w =>
  mv t8 fun t5_1 =>
  lp [a1, t5_1] w fun I1 μ1 => ∀ (x1 : Env) (w1 : World), I1 [x1 1, x1 5] w1 →
  mv (x1 1) fun t9 =>
  o1 Tryz.prog (bin .gtr 105 (.tmp 9) (.const (.int .u64 127)) t9 (.int .u64 127)) w1 fun t10 w =>
  br t10 (fun _ =>
  mv (x1 5) fun t11 =>
  mv (x1 1) fun t12 =>
  o1 Tryz.prog (bin .rem 105 (.tmp 12) (.const (.int .u64 128)) t12 (.int .u64 128)) w fun t13 w =>
  o1 Tryz.prog (convert 105 5 t13) w fun t14 w =>
  o1 Tryz.prog (bin .add 5 (.tmp 14) (.const (.int .u8 128)) t14 (.int .u8 128)) w fun t15 w =>
  o1 Tryz.prog (Instr.buildSlice 39 1 #[(0, t15)]) w fun t16 w =>
  ob Tryz.prog (fun _ => Builtin.append_ #[39, 39] 39 #[t11, t16]) w fun t17 w =>
  mv t17 fun t5_2 =>
  mv (x1 1) fun t18 =>
  o1 Tryz.prog (bin .quo 105 (.tmp 18) (.const (.int .u64 128)) t18 (.int .u64 128)) w fun t19 w =>
  mv t19 fun t1 =>
  I1 [t1, t5_2] w ∧ μ1 [t1, t5_2] w < μ1 [x1 1, x1 5] w1) (fun _ =>
  mv (x1 5) fun t20 =>
  mv (x1 1) fun t21 =>
  o1 Tryz.prog (convert 105 5 t21) w fun t22 w =>
  o1 Tryz.prog (Instr.buildSlice 39 1 #[(0, t22)]) w fun t23 w =>
  ob Tryz.prog (fun _ => Builtin.append_ #[39, 39] 39 #[t20, t23]) w fun t24 w =>
  mv t24 fun t4_1 =>
  k t4_1 w)
theorem C.isthmusref02_Uint {k : Value → World → Prop} {a0 a1 : Value} {w : World} (h : F.isthmusref02_Uint k a0 a1 w) : C Tryz.prog N.isthmusref02_Uint #[a0, a1] w k :=
  den_calls (H := { moves := [], vars := [1, 4, 5] }) (args := [a0, a1]) mixed Tryz.func63 (by kernel_rfl) (by kernel_rfl) (by kernel_rfl) h

-- isthmus/isthmusref02.Bytes
-- isthmus/types.encode[isthmus/api.Header]
-- isthmus/types.putHeader
-- isthmus/isthmusref02.Int
def F.isthmusref02_Int (k : Value → World → Prop) (a0 a1 : Value) (w : World) : Prop :=
  mv (.slice none 0 0) fun t4 =>
  mv a1 fun t5 =>
  o1 Tryz.prog (bin .lss 3 (.tmp 5) (.const (.int .i64 0)) t5 (.int .i64 0)) w fun t6 w =>
  br t6 (fun _ =>
  mv a0 fun t7 =>
  mv a1 fun t8 =>
  o1 Tryz.prog (bin .add 3 (.tmp 8) (.const (.int .i64 1)) t8 (.int .i64 1)) w fun t9 w =>
  o1 Tryz.prog (Op.unary .neg t9) w fun t10 w =>
  o1 Tryz.prog (convert 3 105 t10) w fun t11 w =>
  o1 Tryz.prog (bin .mul 105 (.const (.int .u64 2)) (.tmp 11) (.int .u64 2) t11) w fun t12 w =>
  o1 Tryz.prog (bin .add 105 (.tmp 12) (.const (.int .u64 1)) t12 (.int .u64 1)) w fun t13 w =>
  C Tryz.prog N.isthmusref02_Uint #[t7, t13] w fun t14 w =>
  mv t14 fun t4_1 =>
  k t4_1 w) (fun _ =>
  mv a0 fun t15 =>
  mv a1 fun t16 =>
  o1 Tryz.prog (convert 3 105 t16) w fun t17 w =>
  o1 Tryz.prog (bin .mul 105 (.const (.int .u64 2)) (.tmp 17) (.int .u64 2) t17) w fun t18 w =>
  C Tryz.prog N.isthmusref02_Uint #[t15, t18] w fun t19 w =>
  mv t19 fun t4_2 =>
  k t4_2 w)
theorem C.isthmusref02_Int {k : Value → World → Prop} {a0 a1 : Value} {w : World} (h : F.isthmusref02_Int k a0 a1 w) : C Tryz.prog N.isthmusref02_Int #[a0, a1] w k :=
  den_calls (H := { moves := [], vars := [4] }) (args := [a0, a1]) mixed Tryz.func67 (by kernel_rfl) (by kernel_rfl) (by kernel_rfl) h

-- isthmus/isthmusref02.Text
def F.isthmusref02_Text (k : Value → World → Prop) (a0 a1 : Value) (w : World) : Prop :=
  mv (.slice none 0 0) fun t4 =>
  mv a0 fun t5 =>
  mv a1 fun t6 =>
  o1 Tryz.prog (Builtin.len_ #[9] 3 #[t6]) w fun t7 w =>
  o1 Tryz.prog (convert 3 105 t7) w fun t8 w =>
  C Tryz.prog N.isthmusref02_Uint #[t5, t8] w fun t9 w =>
  mv a1 fun t10 =>
  ob Tryz.prog (fun _ => Builtin.append_ #[39, 9] 39 #[t9, t10]) w fun t11 w =>
  mv t11 fun t4_1 =>
  k t4_1 w
theorem C.isthmusref02_Text {k : Value → World → Prop} {a0 a1 : Value} {w : World} (h : F.isthmusref02_Text k a0 a1 w) : C Tryz.prog N.isthmusref02_Text #[a0, a1] w k :=
  den_calls (H := { moves := [], vars := [4] }) (args := [a0, a1]) mixed Tryz.func68 (by kernel_rfl) (by kernel_rfl) (by kernel_rfl) h

-- isthmus/isthmusref02.Hash
def F.isthmusref02_Hash (k : Value → World → Prop) (a0 a1 : Value) (w : World) : Prop :=
  o1 Tryz.prog (Instr.box 23 a1) w fun t3 w =>
  mv (.slice none 0 0) fun t4 =>
  mv (.slice none 0 0) fun t5 =>
  dr w.drew fun S1 =>
  mv t5 fun t6 =>
  mv a0 fun t7 =>
  tk Tryz.prog S1 (Instr.sliceAt 23 t3 none none none) fun t9 =>
  ob Tryz.prog (fun _ => Builtin.append_ #[39, 39] 39 #[t6, t7]) w.drew fun t8 w =>
  S1 w ∧
  ob Tryz.prog (fun _ => Builtin.append_ #[39, 39] 39 #[t8, t9]) w fun t10 w =>
  S1 w ∧
  mv t10 fun t4_1 =>
  k t4_1 w
theorem C.isthmusref02_Hash {k : Value → World → Prop} {a0 a1 : Value} {w : World} (h : F.isthmusref02_Hash k a0 a1 w) : C Tryz.prog N.isthmusref02_Hash #[a0, a1] w k :=
  den_calls (H := { moves := [(2, (.take 0 (.take 1 (.take 3 (.force 2 (.force 4 (.take 5 .fin)))))))], vars := [4, 5] }) (args := [a0, a1]) mixed Tryz.func69 (by kernel_rfl) (by kernel_rfl) (by kernel_rfl) h

-- isthmus/types.encode[isthmus/api.Commit]
-- isthmus/types.putCommit
-- isthmus/isthmusref11.Vote
-- isthmus/types.VerifyTrust
def F.types_VerifyTrust (k : Value → World → Prop) (a0 a1 a2 : Value) (w : World) : Prop :=
  o1 Tryz.prog (Instr.box 70 a1) w fun t4 w =>
  o1 Tryz.prog (Instr.box 29 a2) w fun t5 w =>
  mv .nilIface fun t6 =>
  o1 Tryz.prog (Instr.makeFunc (.func 125) #[] #[t5, t4]) w fun t11 w =>
  mv t11 fun t7 =>
  mv (.int .i64 0) fun t8 =>
  mv a0 fun t12 =>
  o1 Tryz.prog (Builtin.len_ #[70] 3 #[t12]) w fun t13 w =>
  mv (.int .i64 0) fun t14 =>
  lp [t8, t14] w fun I1 μ1 => ∀ (x1 : Env) (w1 : World), I1 [x1 8, x1 14] w1 →
  o1 Tryz.prog (bin .lss 3 (.tmp 14) (.tmp 13) (x1 14) t13) w1 fun t15 w =>
  br t15 (fun _ =>
  o1 Tryz.prog (Instr.indexAt 70 t12 (x1 14)) w fun t16 w =>
  o1 Tryz.prog (Instr.loadAt 76 t16) w fun t17 w =>
  o1 Tryz.prog (Instr.alloc 76 true (.tuple #[])) w fun t10 w =>
  o0 Tryz.prog (Instr.storeAt 76 t10 t17) w fun _ w =>
  mv t7 fun t18 =>
  o1 Tryz.prog (Instr.loadAt 76 t10) w fun t19 w =>
  cv Tryz.prog t18 #[t19] w fun t20 w =>
  jn (fun x2 => [x2 8]) (fun k1 =>
  br t20 (fun _ =>
  mv (x1 8) fun t21 =>
  o1 Tryz.prog (Instr.fieldAt 76 t10 2) w fun t22 w =>
  o1 Tryz.prog (Instr.loadAt 3 t22) w fun t23 w =>
  o1 Tryz.prog (bin .add 3 (.tmp 21) (.tmp 23) t21 t23) w fun t24 w =>
  mv t24 fun t8_1 =>
  k1 [t8_1] w) (fun _ =>
  k1 [(x1 8)] w)) fun x2 w =>
  o1 Tryz.prog (bin .add 3 (.tmp 14) (.const (.int .i64 1)) (x1 14) (.int .i64 1)) w fun t25 w =>
  mv t25 fun t14_1 =>
  I1 [(x2 8), t14_1] w ∧ μ1 [(x2 8), t14_1] w < μ1 [x1 8, x1 14] w1) (fun _ =>
  mv (x1 8) fun t26 =>
  o1 Tryz.prog (bin .mul 3 (.const (.int .i64 3)) (.tmp 26) (.int .i64 3) t26) w fun t27 w =>
  mv a0 fun t28 =>
  C Tryz.prog N.types_Total #[t28] w fun t29 w =>
  o1 Tryz.prog (bin .leq 3 (.tmp 27) (.tmp 29) t27 t29) w fun t30 w =>
  br t30 (fun _ =>
  C Tryz.prog N.types_fault #[.string ⟨#[116, 114, 117, 115, 116]⟩, .int .i64 32] w fun t31 w =>
  mv t31 fun t6_1 =>
  k t6_1 w) (fun _ =>
  mv .nilIface fun t6_2 =>
  k t6_2 w))
theorem C.types_VerifyTrust {k : Value → World → Prop} {a0 a1 a2 : Value} {w : World} (h : F.types_VerifyTrust k a0 a1 a2 w) : C Tryz.prog N.types_VerifyTrust #[a0, a1, a2] w k :=
  den_calls (H := { moves := [], vars := [6, 7, 8, 14] }) (args := [a0, a1, a2]) mixed Tryz.func73 (by kernel_rfl) (by kernel_rfl) (by kernel_rfl) h

-- isthmus/types.decode[isthmus/api.Vote]
-- isthmus/types.getVote
-- isthmus/isthmusref11.ReadVote
-- isthmus/isthmusref02.Done
def F.isthmusref02_Done (k : Value → World → Prop) (a0 : Value) (w : World) : Prop :=
  o1 Tryz.prog (Instr.box 119 a0) w fun t1 w =>
  mv (.int .i64 0) fun t2 =>
  o1 Tryz.prog (Instr.fieldAt 119 t1 1) w fun t3 w =>
  o1 Tryz.prog (Instr.loadAt 3 t3) w fun t4 w =>
  o1 Tryz.prog (bin .eql 3 (.tmp 4) (.const (.int .i64 0)) t4 (.int .i64 0)) w fun t5 w =>
  mv t5 fun t6 =>
  gd t6 true (fun k1 => o1 Tryz.prog (Instr.fieldAt 119 t1 0) w k1) w fun t7 w =>
  gd t6 true (fun k2 => o1 Tryz.prog (Instr.loadAt 39 t7) w k2) w fun t8 w =>
  gd t6 true (fun k3 => o1 Tryz.prog (Builtin.len_ #[39] 3 #[t8]) w k3) w fun t9 w =>
  gd t6 true (fun k4 => o1 Tryz.prog (bin .gtr 3 (.tmp 9) (.const (.int .i64 0)) t9 (.int .i64 0)) w k4) w fun t10 w =>
  pk t6 t10 (.bool false) fun t11 =>
  br t11 (fun _ =>
  mv (.int .i64 3) fun t2_1 =>
  k t2_1 w) (fun _ =>
  o1 Tryz.prog (Instr.fieldAt 119 t1 1) w fun t12 w =>
  o1 Tryz.prog (Instr.loadAt 3 t12) w fun t13 w =>
  mv t13 fun t2_2 =>
  k t2_2 w)
theorem C.isthmusref02_Done {k : Value → World → Prop} {a0 : Value} {w : World} (h : F.isthmusref02_Done k a0 w) : C Tryz.prog N.isthmusref02_Done #[a0] w k :=
  den_calls (H := { moves := [], vars := [2] }) (args := [a0]) mixed Tryz.func77 (by kernel_rfl) (by kernel_rfl) (by kernel_rfl) h

-- isthmus/types.decode[isthmus/api.Commit]
-- isthmus/types.getCommit
-- isthmus/isthmusref11.ReadCommit
end Go.Proofs.YtlfelmikcdmkhaaGreatDoor
