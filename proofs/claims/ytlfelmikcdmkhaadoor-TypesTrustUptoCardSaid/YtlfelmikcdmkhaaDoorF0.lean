/- What each function asks: printed by hoas.py off the loaded program; each is held against the program by the kernel. -/
import Derived.Test.YtlfelmikcdmkhaaDoorN
set_option linter.unusedVariables false
set_option linter.unusedSimpArgs false
set_option linter.unusedSectionVars false
namespace Go.Proofs.YtlfelmikcdmkhaaDoor
open Go Go.Isk
set_option maxRecDepth 100000
-- gosem.cut.init
-- isthmus/isthmuslaw11.TypesBack
-- isthmus/isthmuslaw11.TypesThird
-- isthmus/isthmuslaw11.TypesTrust
def F.isthmuslaw11_TypesTrust (k : Value → World → Prop) (a0 a1 a2 : Value) (w : World) : Prop :=
  o1 Tryd.prog (Instr.box 55 a0) w fun t3 w =>
  o1 Tryd.prog (Instr.box 29 a1) w fun t4 w =>
  o1 Tryd.prog (Instr.box 25 a2) w fun t5 w =>
  mv (.bool false) fun t6 =>
  o1 Tryd.prog (Instr.fieldAt 55 t3 2) w fun t10 w =>
  o1 Tryd.prog (Instr.loadAt 53 t10) w fun t11 w =>
  C Tryd.prog N.isthmuslaw11_cut #[t11] w fun t12 w =>
  o1 Tryd.prog (Instr.alloc 53 true (.tuple #[])) w fun t7 w =>
  o0 Tryd.prog (Instr.storeAt 53 t7 t12) w fun _ w =>
  o1 Tryd.prog (Instr.fieldAt 29 t4 3) w fun t13 w =>
  o1 Tryd.prog (Instr.loadAt 27 t13) w fun t14 w =>
  o1 Tryd.prog (Builtin.len_ #[27] 3 #[t14]) w fun t15 w =>
  o1 Tryd.prog (bin .gtr 3 (.tmp 15) (.const (.int .i64 40)) t15 (.int .i64 40)) w fun t16 w =>
  br t16 (fun _ =>
  C Tryd.prog N.isthmuslaw11_sure #[] w fun t17 w =>
  mv t17 fun t6_1 =>
  k t6_1 w) (fun _ =>
  o1 Tryd.prog (Instr.fieldAt 55 t3 0) w fun t18 w =>
  o1 Tryd.prog (Instr.loadAt 9 t18) w fun t19 w =>
  o1 Tryd.prog (Instr.fieldAt 55 t3 1) w fun t20 w =>
  o1 Tryd.prog (Instr.loadAt 51 t20) w fun t21 w =>
  o1 Tryd.prog (Instr.loadAt 53 t7) w fun t22 w =>
  o1 Tryd.prog (Instr.loadAt 29 t4) w fun t23 w =>
  C Tryd.prog N.types_VerifyCommit #[t19, t21, t22, t23] w fun t24 w =>
  o1 Tryd.prog (bin .eql 37 (.tmp 24) (.const .nilIface) t24 .nilIface) w fun t25 w =>
  mv t25 fun t26 =>
  gd t26 true (fun k1 => o1 Tryd.prog (Instr.fieldAt 55 t3 1) w k1) w fun t27 w =>
  gd t26 true (fun k2 => o1 Tryd.prog (Instr.loadAt 51 t27) w k2) w fun t28 w =>
  gd t26 true (fun k3 => o1 Tryd.prog (Instr.fieldAt 55 t3 1) w k3) w fun t29 w =>
  gd t26 true (fun k4 => o1 Tryd.prog (Instr.loadAt 51 t29) w k4) w fun t30 w =>
  gd t26 true (fun k5 => o1 Tryd.prog (Instr.loadAt 29 t4) w k5) w fun t31 w =>
  gd t26 true (fun k6 => C Tryd.prog N.types_VerifyTrust #[t28, t30, t31] w k6) w fun t32 w =>
  gd t26 true (fun k7 => o1 Tryd.prog (bin .neq 37 (.tmp 32) (.const .nilIface) t32 .nilIface) w k7) w fun t33 w =>
  pk t26 t33 (.bool false) fun t34 =>
  br t34 (fun _ =>
  mv (.bool false) fun t6_2 =>
  k t6_2 w) (fun _ =>
  o1 Tryd.prog (Instr.loadAt 25 t5) w fun t35 w =>
  o1 Tryd.prog (Instr.alloc 25 true (.tuple #[])) w fun t8 w =>
  o0 Tryd.prog (Instr.storeAt 25 t8 t35) w fun _ w =>
  o1 Tryd.prog (Instr.fieldAt 25 t8 2) w fun t36 w =>
  o1 Tryd.prog (Instr.loadAt 3 t36) w fun t37 w =>
  o1 Tryd.prog (bin .xor 3 (.tmp 37) (.const (.int .i64 1)) t37 (.int .i64 1)) w fun t38 w =>
  o1 Tryd.prog (Instr.fieldAt 25 t8 2) w fun t39 w =>
  o0 Tryd.prog (Instr.storeAt 3 t39 t38) w fun _ w =>
  o1 Tryd.prog (Instr.loadAt 25 t5) w fun t40 w =>
  o1 Tryd.prog (Instr.alloc 25 true (.tuple #[])) w fun t9 w =>
  o0 Tryd.prog (Instr.storeAt 25 t9 t40) w fun _ w =>
  o1 Tryd.prog (Instr.fieldAt 25 t9 4) w fun t41 w =>
  o1 Tryd.prog (Instr.indexAt 23 t41 (.int .i64 0)) w fun t42 w =>
  o1 Tryd.prog (Instr.loadAt 5 t42) w fun t43 w =>
  o1 Tryd.prog (bin .xor 5 (.tmp 43) (.const (.int .u8 1)) t43 (.int .u8 1)) w fun t44 w =>
  o1 Tryd.prog (Instr.fieldAt 25 t9 4) w fun t45 w =>
  o1 Tryd.prog (Instr.indexAt 23 t45 (.int .i64 0)) w fun t46 w =>
  o0 Tryd.prog (Instr.storeAt 5 t46 t44) w fun _ w =>
  dr w.drew fun S1 =>
  tk Tryd.prog S1 (Instr.loadAt 25 t8) fun t47 =>
  tk Tryd.prog S1 (Instr.loadAt 25 t5) fun t50 =>
  C Tryd.prog N.types_EncodeHeader #[t47] w.drew fun t48 w =>
  S1 w ∧
  nS S1 w fun S2 =>
  tk Tryd.prog S2 (convert 33 9 t48) fun t49 =>
  C Tryd.prog N.types_EncodeHeader #[t50] w fun t51 w =>
  S2 w ∧
  nS S2 w fun S3 =>
  tk Tryd.prog S3 (convert 33 9 t51) fun t52 =>
  tk Tryd.prog S3 (bin .neq 9 (.tmp 49) (.tmp 52) t49 t52) fun t53 =>
  mv t53 fun t54 =>
  gdT t54 true (fun k8 => tk Tryd.prog S3 (Instr.loadAt 25 t9) k8) fun t55 =>
  gdT t54 true (fun k9 => tk Tryd.prog S3 (Instr.loadAt 25 t5) k9) fun t58 =>
  gd t54 true (fun k10 => C Tryd.prog N.types_EncodeHeader #[t55] w k10) w fun t56 w =>
  S3 w ∧
  nS S3 w fun S4 =>
  gdT t54 true (fun k11 => tk Tryd.prog S4 (convert 33 9 t56) k11) fun t57 =>
  gd t54 true (fun k12 => C Tryd.prog N.types_EncodeHeader #[t58] w k12) w fun t59 w =>
  S4 w ∧
  nS S4 w fun S5 =>
  gdT t54 true (fun k13 => tk Tryd.prog S5 (convert 33 9 t59) k13) fun t60 =>
  gdT t54 true (fun k14 => tk Tryd.prog S5 (bin .neq 9 (.tmp 57) (.tmp 60) t57 t60) k14) fun t61 =>
  pk t54 t61 (.bool false) fun t62 =>
  mv t62 fun t63 =>
  gd t63 true (fun k15 => C Tryd.prog N.isthmuslaw11_sure #[] w k15) w fun t64 w =>
  S5 w ∧
  pk t63 t64 (.bool false) fun t65 =>
  mv t65 fun t6_3 =>
  k t6_3 w))
theorem C.isthmuslaw11_TypesTrust {k : Value → World → Prop} {a0 a1 a2 : Value} {w : World} (h : F.isthmuslaw11_TypesTrust k a0 a1 a2 w) : C Tryd.prog N.isthmuslaw11_TypesTrust #[a0, a1, a2] w k :=
  den_calls (H := { moves := [(10, (.take 0 (.take 3 (.force 1 (.renew (.take 2 (.force 4 (.renew (.take 5 (.take 6 (.take 7 (.take 8 (.take 11 (.force 9 (.renew (.take 10 (.force 12 (.renew (.take 13 (.take 14 (.take 15 (.take 16 (.force 17 (.take 18 (.take 19 .fin)))))))))))))))))))))))))], vars := [6] }) (args := [a0, a1, a2]) mixed Tryd.func5 (by kernel_rfl) (by kernel_rfl) (by kernel_rfl) h

-- isthmus/isthmuslaw11.sure
def F.isthmuslaw11_sure (k : Value → World → Prop) (w : World) : Prop :=
  mv (.bool false) fun t0 =>
  o1 Tryd.prog (Instr.build 59 #[(0, .string ⟨#[97]⟩), (2, .int .i64 3)]) w fun t2 w =>
  o1 Tryd.prog (Instr.build 59 #[(0, .string ⟨#[98]⟩), (2, .int .i64 1)]) w fun t3 w =>
  o1 Tryd.prog (Instr.buildSlice 51 2 #[(0, t2), (1, t3)]) w fun t4 w =>
  mv t4 fun t1 =>
  mv t1 fun t5 =>
  C Tryd.prog N.types_CheckSet #[t5] w fun t6 w =>
  o1 Tryd.prog (bin .eql 37 (.tmp 6) (.const .nilIface) t6 .nilIface) w fun t7 w =>
  mv t7 fun t8 =>
  gd t8 true (fun k1 => mv t1 fun v => k1 v w) w fun t9 w =>
  gd t8 true (fun k2 => C Tryd.prog N.types_Total #[t9] w k2) w fun t10 w =>
  gd t8 true (fun k3 => o1 Tryd.prog (bin .eql 3 (.tmp 10) (.const (.int .i64 4)) t10 (.int .i64 4)) w k3) w fun t11 w =>
  pk t8 t11 (.bool false) fun t12 =>
  mv t12 fun t13 =>
  gd t13 true (fun k4 => mv t1 fun v => k4 v w) w fun t14 w =>
  gd t13 true (fun k5 => mv t1 fun v => k5 v w) w fun t15 w =>
  gd t13 true (fun k6 => o1 Tryd.prog (Instr.build 35 #[(4, .int .i64 1)]) w k6) w fun t16 w =>
  gd t13 true (fun k7 => o1 Tryd.prog (Instr.buildSlice 27 1 #[(0, t16)]) w k7) w fun t17 w =>
  gd t13 true (fun k8 => o1 Tryd.prog (Instr.build 29 #[(3, t17)]) w k8) w fun t18 w =>
  gd t13 true (fun k9 => C Tryd.prog N.types_VerifyTrust #[t14, t15, t18] w k9) w fun t19 w =>
  gd t13 true (fun k10 => C Tryd.prog N.isthmuslaw11_num #[t19] w k10) w fun t20 w =>
  gd t13 true (fun k11 => o1 Tryd.prog (bin .eql 3 (.tmp 20) (.const (.int .i64 32)) t20 (.int .i64 32)) w k11) w fun t21 w =>
  pk t13 t21 (.bool false) fun t22 =>
  mv t22 fun t23 =>
  gd t23 true (fun k12 => mv t1 fun v => k12 v w) w fun t24 w =>
  gd t23 true (fun k13 => mv t1 fun v => k13 v w) w fun t25 w =>
  gd t23 true (fun k14 => o1 Tryd.prog (Instr.build 35 #[(4, .int .i64 0)]) w k14) w fun t26 w =>
  gd t23 true (fun k15 => o1 Tryd.prog (Instr.buildSlice 27 1 #[(0, t26)]) w k15) w fun t27 w =>
  gd t23 true (fun k16 => o1 Tryd.prog (Instr.build 29 #[(3, t27)]) w k16) w fun t28 w =>
  gd t23 true (fun k17 => C Tryd.prog N.types_VerifyTrust #[t24, t25, t28] w k17) w fun t29 w =>
  gd t23 true (fun k18 => o1 Tryd.prog (bin .eql 37 (.tmp 29) (.const .nilIface) t29 .nilIface) w k18) w fun t30 w =>
  pk t23 t30 (.bool false) fun t31 =>
  mv t31 fun t0_1 =>
  k t0_1 w
theorem C.isthmuslaw11_sure {k : Value → World → Prop} {w : World} (h : F.isthmuslaw11_sure k  w) : C Tryd.prog N.isthmuslaw11_sure #[] w k :=
  den_calls (H := { moves := [], vars := [0, 1] }) (args := []) mixed Tryd.func6 (by kernel_rfl) (by kernel_rfl) (by kernel_rfl) h

-- isthmus/types.DecodeVote
-- isthmus/types.EncodeVote
-- isthmus/isthmuslaw11.votes
-- isthmus/types.DecodeBlock
-- isthmus/types.EncodeBlock
-- isthmus/types.DecodeHeader
-- isthmus/types.EncodeHeader
def F.types_EncodeHeader (k : Value → World → Prop) (a0 : Value) (w : World) : Prop :=
  o1 Tryd.prog (Instr.box 25 a0) w fun t1 w =>
  mv (.slice none 0 0) fun t2 =>
  o1 Tryd.prog (Instr.loadAt 25 t1) w fun t3 w =>
  C Tryd.prog N.types_encode_api_Header #[t3, .func (.func 34) #[] #[]] w fun t4 w =>
  mv t4 fun t2_1 =>
  k t2_1 w
theorem C.types_EncodeHeader {k : Value → World → Prop} {a0 : Value} {w : World} (h : F.types_EncodeHeader k a0 w) : C Tryd.prog N.types_EncodeHeader #[a0] w k :=
  den_calls (H := { moves := [], vars := [2] }) (args := [a0]) mixed Tryd.func13 (by kernel_rfl) (by kernel_rfl) (by kernel_rfl) h

-- isthmus/isthmuslaw11.lists
-- isthmus/isthmuslaw11.commit
-- isthmus/isthmuslaw11.cut
def F.isthmuslaw11_cut (k : Value → World → Prop) (a0 : Value) (w : World) : Prop :=
  o1 Tryd.prog (Instr.box 53 a0) w fun t1 w =>
  o1 Tryd.prog (Instr.alloc 53 true (.tuple #[])) w fun t2 w =>
  o1 Tryd.prog (Instr.fieldAt 53 t1 1) w fun t3 w =>
  o1 Tryd.prog (Instr.loadAt 3 t3) w fun t4 w =>
  o1 Tryd.prog (bin .gtr 3 (.tmp 4) (.const (.int .i64 3)) t4 (.int .i64 3)) w fun t5 w =>
  mv t5 fun t6 =>
  gd t6 true (fun k1 => o1 Tryd.prog (Instr.fieldAt 53 t1 1) w k1) w fun t7 w =>
  gd t6 true (fun k2 => o1 Tryd.prog (Instr.loadAt 3 t7) w k2) w fun t8 w =>
  gd t6 true (fun k3 => o1 Tryd.prog (bin .leq 3 (.tmp 8) (.const (.int .i64 10)) t8 (.int .i64 10)) w k3) w fun t9 w =>
  pk t6 t9 (.bool false) fun t10 =>
  jn (fun x1 => []) (fun k4 =>
  br t10 (fun _ =>
  o1 Tryd.prog (Instr.fieldAt 53 t1 1) w fun t11 w =>
  o1 Tryd.prog (Instr.loadAt 3 t11) w fun t12 w =>
  o1 Tryd.prog (bin .rem 3 (.tmp 12) (.const (.int .i64 4)) t12 (.int .i64 4)) w fun t13 w =>
  o1 Tryd.prog (Instr.fieldAt 53 t1 1) w fun t14 w =>
  o0 Tryd.prog (Instr.storeAt 3 t14 t13) w fun _ w =>
  k4 [] w) (fun _ =>
  k4 [] w)) fun x1 w =>
  o1 Tryd.prog (Instr.loadAt 53 t1) w fun t15 w =>
  o0 Tryd.prog (Instr.storeAt 53 t2 t15) w fun _ w =>
  rc Tryd.prog 53 t2 w fun r0 =>
  k r0 w
theorem C.isthmuslaw11_cut {k : Value → World → Prop} {a0 : Value} {w : World} (h : F.isthmuslaw11_cut k a0 w) : C Tryd.prog N.isthmuslaw11_cut #[a0] w k :=
  den_calls (H := { moves := [], vars := [] }) (args := [a0]) mixed Tryd.func16 (by kernel_rfl) (by kernel_rfl) (by kernel_rfl) h

-- isthmus/types.VerifyCommit
def F.types_VerifyCommit (k : Value → World → Prop) (a0 a1 a2 a3 : Value) (w : World) : Prop :=
  o1 Tryd.prog (Instr.box 53 a2) w fun t6 w =>
  o1 Tryd.prog (Instr.box 29 a3) w fun t7 w =>
  mv .nilIface fun t8 =>
  mv a1 fun t15 =>
  C Tryd.prog N.types_CheckSet #[t15] w fun t16 w =>
  mv t16 fun t9 =>
  mv t9 fun t17 =>
  o1 Tryd.prog (bin .neq 37 (.tmp 17) (.const .nilIface) t17 .nilIface) w fun t18 w =>
  br t18 (fun _ =>
  mv t9 fun t19 =>
  mv t19 fun t8_1 =>
  k t8_1 w) (fun _ =>
  o1 Tryd.prog (Instr.fieldAt 29 t7 2) w fun t20 w =>
  o1 Tryd.prog (Instr.loadAt 23 t20) w fun t21 w =>
  o1 Tryd.prog (Instr.build 23 #[]) w fun t22 w =>
  o1 Tryd.prog (bin .eql 23 (.tmp 21) (.tmp 22) t21 t22) w fun t23 w =>
  br t23 (fun _ =>
  C Tryd.prog N.types_fault #[.string ⟨#[99, 111, 109, 109, 105, 116]⟩, .int .i64 31] w fun t24 w =>
  mv t24 fun t8_2 =>
  k t8_2 w) (fun _ =>
  mv (.int .i64 (-1)) fun t10 =>
  mv (.int .i64 0) fun t11 =>
  o1 Tryd.prog (Instr.fieldAt 29 t7 3) w fun t25 w =>
  o1 Tryd.prog (Instr.loadAt 27 t25) w fun t26 w =>
  o1 Tryd.prog (Builtin.len_ #[27] 3 #[t26]) w fun t27 w =>
  mv (.int .i64 0) fun t28 =>
  lp [t8, t10, t11, undef, t28] w fun I1 μ1 => ∀ (x1 : Env) (w1 : World), I1 [x1 8, x1 10, x1 11, x1 14, x1 28] w1 →
  o1 Tryd.prog (bin .lss 3 (.tmp 28) (.tmp 27) (x1 28) t27) w1 fun t29 w =>
  br t29 (fun _ =>
  o1 Tryd.prog (Instr.indexAt 27 t26 (x1 28)) w fun t30 w =>
  o1 Tryd.prog (Instr.loadAt 35 t30) w fun t31 w =>
  o1 Tryd.prog (Instr.alloc 35 true (.tuple #[])) w fun t13 w =>
  o0 Tryd.prog (Instr.storeAt 35 t13 t31) w fun _ w =>
  o1 Tryd.prog (Instr.fieldAt 35 t13 0) w fun t32 w =>
  o1 Tryd.prog (Instr.loadAt 3 t32) w fun t33 w =>
  o1 Tryd.prog (bin .neq 3 (.tmp 33) (.const (.int .i64 2)) t33 (.int .i64 2)) w fun t34 w =>
  mv t34 fun t35 =>
  gd t35 false (fun k1 => o1 Tryd.prog (Instr.fieldAt 35 t13 1) w k1) w fun t36 w =>
  gd t35 false (fun k2 => o1 Tryd.prog (Instr.loadAt 3 t36) w k2) w fun t37 w =>
  gd t35 false (fun k3 => o1 Tryd.prog (Instr.fieldAt 29 t7 0) w k3) w fun t38 w =>
  gd t35 false (fun k4 => o1 Tryd.prog (Instr.loadAt 3 t38) w k4) w fun t39 w =>
  gd t35 false (fun k5 => o1 Tryd.prog (bin .neq 3 (.tmp 37) (.tmp 39) t37 t39) w k5) w fun t40 w =>
  pk t35 (.bool true) t40 fun t41 =>
  mv t41 fun t42 =>
  gd t42 false (fun k6 => o1 Tryd.prog (Instr.fieldAt 35 t13 2) w k6) w fun t43 w =>
  gd t42 false (fun k7 => o1 Tryd.prog (Instr.loadAt 3 t43) w k7) w fun t44 w =>
  gd t42 false (fun k8 => o1 Tryd.prog (Instr.fieldAt 29 t7 1) w k8) w fun t45 w =>
  gd t42 false (fun k9 => o1 Tryd.prog (Instr.loadAt 3 t45) w k9) w fun t46 w =>
  gd t42 false (fun k10 => o1 Tryd.prog (bin .neq 3 (.tmp 44) (.tmp 46) t44 t46) w k10) w fun t47 w =>
  pk t42 (.bool true) t47 fun t48 =>
  mv t48 fun t49 =>
  gd t49 false (fun k11 => o1 Tryd.prog (Instr.fieldAt 35 t13 3) w k11) w fun t50 w =>
  gd t49 false (fun k12 => o1 Tryd.prog (Instr.loadAt 23 t50) w k12) w fun t51 w =>
  gd t49 false (fun k13 => o1 Tryd.prog (Instr.fieldAt 29 t7 2) w k13) w fun t52 w =>
  gd t49 false (fun k14 => o1 Tryd.prog (Instr.loadAt 23 t52) w k14) w fun t53 w =>
  gd t49 false (fun k15 => o1 Tryd.prog (bin .neq 23 (.tmp 51) (.tmp 53) t51 t53) w k15) w fun t54 w =>
  pk t49 (.bool true) t54 fun t55 =>
  mv t55 fun t56 =>
  gd t56 false (fun k16 => o1 Tryd.prog (Instr.fieldAt 35 t13 4) w k16) w fun t57 w =>
  gd t56 false (fun k17 => o1 Tryd.prog (Instr.loadAt 3 t57) w k17) w fun t58 w =>
  gd t56 false (fun k18 => mv (x1 10) fun v => k18 v w) w fun t59 w =>
  gd t56 false (fun k19 => o1 Tryd.prog (bin .leq 3 (.tmp 58) (.tmp 59) t58 t59) w k19) w fun t60 w =>
  pk t56 (.bool true) t60 fun t61 =>
  br t61 (fun _ =>
  C Tryd.prog N.types_fault #[.string ⟨#[99, 111, 109, 109, 105, 116, 39, 115, 32, 118, 111, 116, 101]⟩, .int .i64 31] w fun t62 w =>
  mv t62 fun t8_3 =>
  k t8_3 w) (fun _ =>
  mv a0 fun t63 =>
  mv a1 fun t64 =>
  o1 Tryd.prog (Instr.loadAt 53 t6) w fun t65 w =>
  o1 Tryd.prog (Instr.loadAt 35 t13) w fun t66 w =>
  C Tryd.prog N.types_VerifyVote #[t63, t64, t65, t66] w fun t67 w =>
  mv t67 fun t14 =>
  mv t14 fun t68 =>
  o1 Tryd.prog (bin .neq 37 (.tmp 68) (.const .nilIface) t68 .nilIface) w fun t69 w =>
  br t69 (fun _ =>
  mv t14 fun t70 =>
  mv t70 fun t8_4 =>
  k t8_4 w) (fun _ =>
  o1 Tryd.prog (Instr.fieldAt 35 t13 4) w fun t71 w =>
  o1 Tryd.prog (Instr.loadAt 3 t71) w fun t72 w =>
  mv t72 fun t10_1 =>
  mv (x1 11) fun t73 =>
  mv a1 fun t74 =>
  mv t10_1 fun t75 =>
  o1 Tryd.prog (Instr.indexAt 51 t74 t75) w fun t76 w =>
  o1 Tryd.prog (Instr.fieldAt 59 t76 2) w fun t77 w =>
  o1 Tryd.prog (Instr.loadAt 3 t77) w fun t78 w =>
  o1 Tryd.prog (bin .add 3 (.tmp 73) (.tmp 78) t73 t78) w fun t79 w =>
  mv t79 fun t11_1 =>
  o1 Tryd.prog (bin .add 3 (.tmp 28) (.const (.int .i64 1)) (x1 28) (.int .i64 1)) w fun t80 w =>
  mv t80 fun t28_1 =>
  I1 [(x1 8), t10_1, t11_1, t14, t28_1] w ∧ μ1 [(x1 8), t10_1, t11_1, t14, t28_1] w < μ1 [x1 8, x1 10, x1 11, x1 14, x1 28] w1))) (fun _ =>
  mv (x1 11) fun t81 =>
  o1 Tryd.prog (bin .mul 3 (.const (.int .i64 3)) (.tmp 81) (.int .i64 3) t81) w fun t82 w =>
  mv a1 fun t83 =>
  C Tryd.prog N.types_Total #[t83] w fun t84 w =>
  o1 Tryd.prog (bin .mul 3 (.const (.int .i64 2)) (.tmp 84) (.int .i64 2) t84) w fun t85 w =>
  o1 Tryd.prog (bin .leq 3 (.tmp 82) (.tmp 85) t82 t85) w fun t86 w =>
  br t86 (fun _ =>
  C Tryd.prog N.types_fault #[.string ⟨#[99, 111, 109, 109, 105, 116]⟩, .int .i64 32] w fun t87 w =>
  mv t87 fun t8_5 =>
  k t8_5 w) (fun _ =>
  mv .nilIface fun t8_6 =>
  k t8_6 w))))
theorem C.types_VerifyCommit {k : Value → World → Prop} {a0 a1 a2 a3 : Value} {w : World} (h : F.types_VerifyCommit k a0 a1 a2 a3 w) : C Tryd.prog N.types_VerifyCommit #[a0, a1, a2, a3] w k :=
  den_calls (H := { moves := [], vars := [8, 9, 10, 11, 14, 28] }) (args := [a0, a1, a2, a3]) mixed Tryd.func17 (by kernel_rfl) (by kernel_rfl) (by kernel_rfl) h

-- isthmus/types.Total
def F.types_Total (k : Value → World → Prop) (a0 : Value) (w : World) : Prop :=
  mv (.int .i64 0) fun t2 =>
  mv (.int .i64 0) fun t3 =>
  mv a0 fun t6 =>
  o1 Tryd.prog (Builtin.len_ #[51] 3 #[t6]) w fun t7 w =>
  mv (.int .i64 0) fun t8 =>
  lp [t3, t8] w fun I1 μ1 => ∀ (x1 : Env) (w1 : World), I1 [x1 3, x1 8] w1 →
  o1 Tryd.prog (bin .lss 3 (.tmp 8) (.tmp 7) (x1 8) t7) w1 fun t9 w =>
  br t9 (fun _ =>
  o1 Tryd.prog (Instr.indexAt 51 t6 (x1 8)) w fun t10 w =>
  o1 Tryd.prog (Instr.loadAt 59 t10) w fun t11 w =>
  o1 Tryd.prog (Instr.alloc 59 true (.tuple #[])) w fun t5 w =>
  o0 Tryd.prog (Instr.storeAt 59 t5 t11) w fun _ w =>
  mv (x1 3) fun t12 =>
  o1 Tryd.prog (Instr.fieldAt 59 t5 2) w fun t13 w =>
  o1 Tryd.prog (Instr.loadAt 3 t13) w fun t14 w =>
  o1 Tryd.prog (bin .add 3 (.tmp 12) (.tmp 14) t12 t14) w fun t15 w =>
  mv t15 fun t3_1 =>
  o1 Tryd.prog (bin .add 3 (.tmp 8) (.const (.int .i64 1)) (x1 8) (.int .i64 1)) w fun t16 w =>
  mv t16 fun t8_1 =>
  I1 [t3_1, t8_1] w ∧ μ1 [t3_1, t8_1] w < μ1 [x1 3, x1 8] w1) (fun _ =>
  mv (x1 3) fun t17 =>
  mv t17 fun t2_1 =>
  k t2_1 w)
theorem C.types_Total {k : Value → World → Prop} {a0 : Value} {w : World} (h : F.types_Total k a0 w) : C Tryd.prog N.types_Total #[a0] w k :=
  den_calls (H := { moves := [], vars := [2, 3, 8] }) (args := [a0]) mixed Tryd.func18 (by kernel_rfl) (by kernel_rfl) (by kernel_rfl) h

-- isthmus/types.VerifyTrust
def F.types_VerifyTrust (k : Value → World → Prop) (a0 a1 a2 : Value) (w : World) : Prop :=
  o1 Tryd.prog (Instr.box 51 a1) w fun t4 w =>
  o1 Tryd.prog (Instr.box 29 a2) w fun t5 w =>
  mv .nilIface fun t6 =>
  o1 Tryd.prog (Instr.makeFunc (.func 37) #[] #[t5, t4]) w fun t11 w =>
  mv t11 fun t7 =>
  mv (.int .i64 0) fun t8 =>
  mv a0 fun t12 =>
  o1 Tryd.prog (Builtin.len_ #[51] 3 #[t12]) w fun t13 w =>
  mv (.int .i64 0) fun t14 =>
  lp [t8, t14] w fun I1 μ1 => ∀ (x1 : Env) (w1 : World), I1 [x1 8, x1 14] w1 →
  o1 Tryd.prog (bin .lss 3 (.tmp 14) (.tmp 13) (x1 14) t13) w1 fun t15 w =>
  br t15 (fun _ =>
  o1 Tryd.prog (Instr.indexAt 51 t12 (x1 14)) w fun t16 w =>
  o1 Tryd.prog (Instr.loadAt 59 t16) w fun t17 w =>
  o1 Tryd.prog (Instr.alloc 59 true (.tuple #[])) w fun t10 w =>
  o0 Tryd.prog (Instr.storeAt 59 t10 t17) w fun _ w =>
  mv t7 fun t18 =>
  o1 Tryd.prog (Instr.loadAt 59 t10) w fun t19 w =>
  cv Tryd.prog t18 #[t19] w fun t20 w =>
  jn (fun x2 => [x2 8]) (fun k1 =>
  br t20 (fun _ =>
  mv (x1 8) fun t21 =>
  o1 Tryd.prog (Instr.fieldAt 59 t10 2) w fun t22 w =>
  o1 Tryd.prog (Instr.loadAt 3 t22) w fun t23 w =>
  o1 Tryd.prog (bin .add 3 (.tmp 21) (.tmp 23) t21 t23) w fun t24 w =>
  mv t24 fun t8_1 =>
  k1 [t8_1] w) (fun _ =>
  k1 [(x1 8)] w)) fun x2 w =>
  o1 Tryd.prog (bin .add 3 (.tmp 14) (.const (.int .i64 1)) (x1 14) (.int .i64 1)) w fun t25 w =>
  mv t25 fun t14_1 =>
  I1 [(x2 8), t14_1] w ∧ μ1 [(x2 8), t14_1] w < μ1 [x1 8, x1 14] w1) (fun _ =>
  mv (x1 8) fun t26 =>
  o1 Tryd.prog (bin .mul 3 (.const (.int .i64 3)) (.tmp 26) (.int .i64 3) t26) w fun t27 w =>
  mv a0 fun t28 =>
  C Tryd.prog N.types_Total #[t28] w fun t29 w =>
  o1 Tryd.prog (bin .leq 3 (.tmp 27) (.tmp 29) t27 t29) w fun t30 w =>
  br t30 (fun _ =>
  C Tryd.prog N.types_fault #[.string ⟨#[116, 114, 117, 115, 116]⟩, .int .i64 32] w fun t31 w =>
  mv t31 fun t6_1 =>
  k t6_1 w) (fun _ =>
  mv .nilIface fun t6_2 =>
  k t6_2 w))
theorem C.types_VerifyTrust {k : Value → World → Prop} {a0 a1 a2 : Value} {w : World} (h : F.types_VerifyTrust k a0 a1 a2 w) : C Tryd.prog N.types_VerifyTrust #[a0, a1, a2] w k :=
  den_calls (H := { moves := [], vars := [6, 7, 8, 14] }) (args := [a0, a1, a2]) mixed Tryd.func19 (by kernel_rfl) (by kernel_rfl) (by kernel_rfl) h

-- isthmus/types.CheckSet
def F.types_CheckSet (k : Value → World → Prop) (a0 : Value) (w : World) : Prop :=
  mv .nilIface fun t2 =>
  mv a0 fun t7 =>
  o1 Tryd.prog (Builtin.len_ #[51] 3 #[t7]) w fun t8 w =>
  o1 Tryd.prog (bin .eql 3 (.tmp 8) (.const (.int .i64 0)) t8 (.int .i64 0)) w fun t9 w =>
  mv t9 fun t10 =>
  gd t10 false (fun k1 => mv a0 fun v => k1 v w) w fun t11 w =>
  gd t10 false (fun k2 => o1 Tryd.prog (Builtin.len_ #[51] 3 #[t11]) w k2) w fun t12 w =>
  gd t10 false (fun k3 => o1 Tryd.prog (bin .gtr 3 (.tmp 12) (.const (.int .i64 32)) t12 (.int .i64 32)) w k3) w fun t13 w =>
  pk t10 (.bool true) t13 fun t14 =>
  br t14 (fun _ =>
  C Tryd.prog N.types_fault #[.string ⟨#[115, 101, 116]⟩, .int .i64 30] w fun t15 w =>
  mv t15 fun t2_1 =>
  k t2_1 w) (fun _ =>
  mv (.int .i64 1099511627776) fun t3 =>
  mv a0 fun t16 =>
  o1 Tryd.prog (Builtin.len_ #[51] 3 #[t16]) w fun t17 w =>
  mv (.int .i64 0) fun t18 =>
  lp [t2, t3, undef, undef, t18] w fun I1 μ1 => ∀ (x1 : Env) (w1 : World), I1 [x1 2, x1 3, x1 4, x1 6, x1 18] w1 →
  o1 Tryd.prog (bin .lss 3 (.tmp 18) (.tmp 17) (x1 18) t17) w1 fun t19 w =>
  br t19 (fun _ =>
  mv (x1 18) fun t20 =>
  o1 Tryd.prog (Instr.indexAt 51 t16 (x1 18)) w fun t21 w =>
  o1 Tryd.prog (Instr.loadAt 59 t21) w fun t22 w =>
  o1 Tryd.prog (Instr.alloc 59 true (.tuple #[])) w fun t5 w =>
  mv t20 fun t4 =>
  o0 Tryd.prog (Instr.storeAt 59 t5 t22) w fun _ w =>
  mv a0 fun t23 =>
  mv t4 fun t24 =>
  o1 Tryd.prog (Instr.sliceAt 51 t23 none (some t24) none) w fun t25 w =>
  o1 Tryd.prog (Instr.makeFunc (.func 41) #[] #[t5]) w fun t26 w =>
  C Tryd.prog N.slices_ContainsFunc_api_Validator_api_Validator #[t25, t26] w fun t27 w =>
  mv t27 fun t6 =>
  o1 Tryd.prog (Instr.fieldAt 59 t5 0) w fun t28 w =>
  o1 Tryd.prog (Instr.loadAt 9 t28) w fun t29 w =>
  C Tryd.prog N.types_named #[t29] w fun t30 w =>
  o1 Tryd.prog (Op.unary .not t30) w fun t31 w =>
  mv t31 fun t32 =>
  gd t32 false (fun k4 => mv t6 fun v => k4 v w) w fun t33 w =>
  pk t32 (.bool true) t33 fun t34 =>
  mv t34 fun t35 =>
  gd t35 false (fun k5 => o1 Tryd.prog (Instr.fieldAt 59 t5 2) w k5) w fun t36 w =>
  gd t35 false (fun k6 => o1 Tryd.prog (Instr.loadAt 3 t36) w k6) w fun t37 w =>
  gd t35 false (fun k7 => o1 Tryd.prog (bin .lss 3 (.tmp 37) (.const (.int .i64 1)) t37 (.int .i64 1)) w k7) w fun t38 w =>
  pk t35 (.bool true) t38 fun t39 =>
  mv t39 fun t40 =>
  gd t40 false (fun k8 => o1 Tryd.prog (Instr.fieldAt 59 t5 2) w k8) w fun t41 w =>
  gd t40 false (fun k9 => o1 Tryd.prog (Instr.loadAt 3 t41) w k9) w fun t42 w =>
  gd t40 false (fun k10 => mv (x1 3) fun v => k10 v w) w fun t43 w =>
  gd t40 false (fun k11 => o1 Tryd.prog (bin .gtr 3 (.tmp 42) (.tmp 43) t42 t43) w k11) w fun t44 w =>
  pk t40 (.bool true) t44 fun t45 =>
  br t45 (fun _ =>
  C Tryd.prog N.types_fault #[.string ⟨#[118, 97, 108, 105, 100, 97, 116, 111, 114]⟩, .int .i64 30] w fun t46 w =>
  mv t46 fun t2_2 =>
  k t2_2 w) (fun _ =>
  mv (x1 3) fun t47 =>
  o1 Tryd.prog (Instr.fieldAt 59 t5 2) w fun t48 w =>
  o1 Tryd.prog (Instr.loadAt 3 t48) w fun t49 w =>
  o1 Tryd.prog (bin .sub 3 (.tmp 47) (.tmp 49) t47 t49) w fun t50 w =>
  mv t50 fun t3_1 =>
  o1 Tryd.prog (bin .add 3 (.tmp 18) (.const (.int .i64 1)) (x1 18) (.int .i64 1)) w fun t51 w =>
  mv t51 fun t18_1 =>
  I1 [(x1 2), t3_1, t4, t6, t18_1] w ∧ μ1 [(x1 2), t3_1, t4, t6, t18_1] w < μ1 [x1 2, x1 3, x1 4, x1 6, x1 18] w1)) (fun _ =>
  mv .nilIface fun t2_3 =>
  k t2_3 w))
theorem C.types_CheckSet {k : Value → World → Prop} {a0 : Value} {w : World} (h : F.types_CheckSet k a0 w) : C Tryd.prog N.types_CheckSet #[a0] w k :=
  den_calls (H := { moves := [], vars := [2, 3, 4, 6, 18] }) (args := [a0]) mixed Tryd.func20 (by kernel_rfl) (by kernel_rfl) (by kernel_rfl) h

-- isthmus/isthmuslaw11.num
def F.isthmuslaw11_num (k : Value → World → Prop) (a0 : Value) (w : World) : Prop :=
  mv (.int .i64 0) fun t2 =>
  o1 Tryd.prog (Instr.alloc 80 true (.tuple #[])) w fun t3 w =>
  mv a0 fun t4 =>
  o1 Tryd.prog (bin .eql 37 (.tmp 4) (.const .nilIface) t4 .nilIface) w fun t5 w =>
  br t5 (fun _ =>
  mv (.int .i64 0) fun t2_1 =>
  k t2_1 w) (fun _ =>
  mv a0 fun t6 =>
  o1 Tryd.prog (Instr.makeInterface 88 t3) w fun t7 w =>
  C Tryd.prog N.errors_As #[t6, t7] w fun t8 w =>
  br t8 (fun _ =>
  o1 Tryd.prog (Instr.loadAt 80 t3) w fun t9 w =>
  mv t9 fun t2_2 =>
  k t2_2 w) (fun _ =>
  mv (.int .i64 (-1)) fun t2_3 =>
  k t2_3 w))
theorem C.isthmuslaw11_num {k : Value → World → Prop} {a0 : Value} {w : World} (h : F.isthmuslaw11_num k a0 w) : C Tryd.prog N.isthmuslaw11_num #[a0] w k :=
  den_calls (H := { moves := [], vars := [2] }) (args := [a0]) mixed Tryd.func21 (by kernel_rfl) (by kernel_rfl) (by kernel_rfl) h

-- isthmus/types.decode[isthmus/api.Vote]
end Go.Proofs.YtlfelmikcdmkhaaDoor
