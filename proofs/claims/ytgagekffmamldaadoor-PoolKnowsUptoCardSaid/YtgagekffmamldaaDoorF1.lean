/- What each function asks: printed by hoas.py off the loaded program; each is held against the program by the kernel. -/
import Derived.Test.YtgagekffmamldaaDoorN
set_option linter.unusedVariables false
set_option linter.unusedSimpArgs false
set_option linter.unusedSectionVars false
namespace Go.Proofs.YtgagekffmamldaaDoor
open Go Go.Isk
set_option maxRecDepth 100000
-- (*isthmus/pool.Pool).Has
def F.pool_Pool_Has (k : Value → World → Prop) (a0 a1 : Value) (w : World) : Prop :=
  o1 Tryd.prog (Instr.box 40 a1) w fun t3 w =>
  mv (.bool false) fun t4 =>
  mv a0 fun t5 =>
  o1 Tryd.prog (bin .neq 26 (.tmp 5) (.const (.pointer none)) t5 (.pointer none)) w fun t6 w =>
  mv t6 fun t7 =>
  gd t7 true (fun k1 => mv a0 fun v => k1 v w) w fun t8 w =>
  gd t7 true (fun k2 => nilOk t8 = true ∧ mv t8 fun v => k2 v w) w fun t9 w =>
  gd t7 true (fun k3 => o1 Tryd.prog (Instr.fieldAt 58 t9 3) w k3) w fun t10 w =>
  gd t7 true (fun k4 => o1 Tryd.prog (Instr.loadAt 56 t10) w k4) w fun t11 w =>
  gd t7 true (fun k5 => o1 Tryd.prog (Instr.makeFunc (.func 27) #[] #[t3]) w k5) w fun t12 w =>
  gd t7 true (fun k6 => C Tryd.prog N.slices_ContainsFunc_pool_item_pool_item #[t11, t12] w k6) w fun t13 w =>
  pk t7 t13 (.bool false) fun t14 =>
  mv t14 fun t4_1 =>
  k t4_1 w
theorem C.pool_Pool_Has {k : Value → World → Prop} {a0 a1 : Value} {w : World} (h : F.pool_Pool_Has k a0 a1 w) : C Tryd.prog N.pool_Pool_Has #[a0, a1] w k :=
  den_calls (H := { moves := [], vars := [4] }) (args := [a0, a1]) mixed Tryd.func8 (by kernel_rfl) (by kernel_rfl) (by kernel_rfl) h

-- isthmus/txs.Hash
def F.txs_Hash (k : Value → World → Prop) (a0 : Value) (w : World) : Prop :=
  o1 Tryd.prog (Instr.alloc 40 true (.tuple #[])) w fun t2 w =>
  o1 Tryd.prog (Instr.buildSlice 33 1 #[(0, .int .u8 9)]) w fun t3 w =>
  mv a0 fun t4 =>
  ob Tryd.prog (fun _ => Builtin.append_ #[33, 33] 33 #[t3, t4]) w fun t5 w =>
  C Tryd.prog N.sha_Sum #[t5] w fun t6 w =>
  o0 Tryd.prog (Instr.storeAt 40 t2 t6) w fun _ w =>
  rc Tryd.prog 40 t2 w fun r0 =>
  k r0 w
theorem C.txs_Hash {k : Value → World → Prop} {a0 : Value} {w : World} (h : F.txs_Hash k a0 w) : C Tryd.prog N.txs_Hash #[a0] w k :=
  den_calls (H := { moves := [], vars := [] }) (args := [a0]) mixed Tryd.func9 (by kernel_rfl) (by kernel_rfl) (by kernel_rfl) h

-- (*isthmus/pool.Pool).Len
def F.pool_Pool_Len (k : Value → World → Prop) (a0 : Value) (w : World) : Prop :=
  mv (.int .i64 0) fun t2 =>
  mv a0 fun t3 =>
  o1 Tryd.prog (bin .eql 26 (.tmp 3) (.const (.pointer none)) t3 (.pointer none)) w fun t4 w =>
  br t4 (fun _ =>
  mv (.int .i64 0) fun t2_1 =>
  k t2_1 w) (fun _ =>
  mv a0 fun t5 =>
  nilOk t5 = true ∧ mv t5 fun t6 =>
  o1 Tryd.prog (Instr.fieldAt 58 t6 3) w fun t7 w =>
  o1 Tryd.prog (Instr.loadAt 56 t7) w fun t8 w =>
  o1 Tryd.prog (Builtin.len_ #[56] 3 #[t8]) w fun t9 w =>
  mv t9 fun t2_2 =>
  k t2_2 w)
theorem C.pool_Pool_Len {k : Value → World → Prop} {a0 : Value} {w : World} (h : F.pool_Pool_Len k a0 w) : C Tryd.prog N.pool_Pool_Len #[a0] w k :=
  den_calls (H := { moves := [], vars := [2] }) (args := [a0]) mixed Tryd.func10 (by kernel_rfl) (by kernel_rfl) (by kernel_rfl) h

-- (*isthmus/pool.Pool).Bytes
-- isthmus/isthmuslaw18.sure
def F.isthmuslaw18_sure (k : Value → World → Prop) (w : World) : Prop :=
  mv (.bool false) fun t0 =>
  C Tryd.prog N.pool_New #[.int .i64 2, .int .i64 100, .int .i64 0] w fun t12 w =>
  mv t12 fun t11 =>
  o1 Tryd.prog (Instr.extract t11 0) w fun t13 w =>
  o1 Tryd.prog (Instr.extract t11 1) w fun t14 w =>
  mv t13 fun t1 =>
  mv t14 fun t2 =>
  mv t2 fun t15 =>
  o1 Tryd.prog (bin .neq 28 (.tmp 15) (.const .nilIface) t15 .nilIface) w fun t16 w =>
  mv t16 fun t17 =>
  gd t17 false (fun k1 => mv t1 fun v => k1 v w) w fun t18 w =>
  gd t17 false (fun k2 => o1 Tryd.prog (bin .eql 26 (.tmp 18) (.const (.pointer none)) t18 (.pointer none)) w k2) w fun t19 w =>
  pk t17 (.bool true) t19 fun t20 =>
  br t20 (fun _ =>
  mv (.bool false) fun t0_1 =>
  k t0_1 w) (fun _ =>
  mv t1 fun t22 =>
  o1 Tryd.prog (Instr.buildSlice 33 1 #[(0, .int .u8 97)]) w fun t23 w =>
  o1 Tryd.prog (convert 33 33 t23) w fun t24 w =>
  C Tryd.prog N.pool_Pool_Add #[t22, t24, .int .i64 1] w fun t25 w =>
  mv t25 fun t21 =>
  o1 Tryd.prog (Instr.extract t21 0) w fun t26 w =>
  o1 Tryd.prog (Instr.extract t21 1) w fun t27 w =>
  mv t26 fun t3 =>
  mv t27 fun t4 =>
  mv t1 fun t29 =>
  o1 Tryd.prog (Instr.buildSlice 33 1 #[(0, .int .u8 98)]) w fun t30 w =>
  o1 Tryd.prog (convert 33 33 t30) w fun t31 w =>
  C Tryd.prog N.pool_Pool_Add #[t29, t31, .int .i64 2] w fun t32 w =>
  mv t32 fun t28 =>
  o1 Tryd.prog (Instr.extract t28 0) w fun t33 w =>
  o1 Tryd.prog (Instr.extract t28 1) w fun t34 w =>
  mv t33 fun t5 =>
  mv t34 fun t6 =>
  mv t1 fun t36 =>
  o1 Tryd.prog (Instr.buildSlice 33 1 #[(0, .int .u8 99)]) w fun t37 w =>
  o1 Tryd.prog (convert 33 33 t37) w fun t38 w =>
  C Tryd.prog N.pool_Pool_Add #[t36, t38, .int .i64 3] w fun t39 w =>
  mv t39 fun t35 =>
  o1 Tryd.prog (Instr.extract t35 0) w fun t40 w =>
  o1 Tryd.prog (Instr.extract t35 1) w fun t41 w =>
  mv t40 fun t7 =>
  mv t41 fun t8 =>
  mv t1 fun t43 =>
  o1 Tryd.prog (Instr.buildSlice 33 1 #[(0, .int .u8 100)]) w fun t44 w =>
  o1 Tryd.prog (convert 33 33 t44) w fun t45 w =>
  C Tryd.prog N.pool_Pool_Add #[t43, t45, .int .i64 2] w fun t46 w =>
  mv t46 fun t42 =>
  o1 Tryd.prog (Instr.extract t42 0) w fun t47 w =>
  o1 Tryd.prog (Instr.extract t42 1) w fun t48 w =>
  mv t47 fun t9 =>
  mv t48 fun t10 =>
  dr w.drew fun S1 =>
  mv t4 fun t49 =>
  tk Tryd.prog S1 (bin .eql 28 (.tmp 49) (.const .nilIface) t49 .nilIface) fun t50 =>
  mv t50 fun t51 =>
  gdT t51 true (fun k3 => mv t6 k3) fun t52 =>
  gdT t51 true (fun k4 => tk Tryd.prog S1 (bin .eql 28 (.tmp 52) (.const .nilIface) t52 .nilIface) k4) fun t53 =>
  pk t51 t53 (.bool false) fun t54 =>
  mv t54 fun t55 =>
  gdT t55 true (fun k5 => mv t8 k5) fun t56 =>
  gdT t55 true (fun k6 => tk Tryd.prog S1 (bin .eql 28 (.tmp 56) (.const .nilIface) t56 .nilIface) k6) fun t57 =>
  pk t55 t57 (.bool false) fun t58 =>
  mv t58 fun t59 =>
  gdT t59 true (fun k7 => mv t10 k7) fun t60 =>
  gd t59 true (fun k8 => C Tryd.prog N.isthmuslaw18_num #[t60] w.drew k8) w.drew fun t61 w =>
  S1 w ∧
  gdT t59 true (fun k9 => tk Tryd.prog S1 (bin .eql 3 (.tmp 61) (.const (.int .i64 10)) t61 (.int .i64 10)) k9) fun t62 =>
  pk t59 t62 (.bool false) fun t63 =>
  mv t63 fun t64 =>
  gdT t64 true (fun k10 => mv t7 k10) fun t65 =>
  gdT t64 true (fun k11 => tk Tryd.prog S1 (Builtin.len_ #[32] 3 #[t65]) k11) fun t66 =>
  gdT t64 true (fun k12 => tk Tryd.prog S1 (bin .eql 3 (.tmp 66) (.const (.int .i64 1)) t66 (.int .i64 1)) k12) fun t67 =>
  pk t64 t67 (.bool false) fun t68 =>
  mv t68 fun t69 =>
  gdT t69 true (fun k13 => mv t7 k13) fun t70 =>
  gdT t69 true (fun k14 => tk Tryd.prog S1 (Instr.indexAt 32 t70 (.int .i64 0)) k14) fun t71 =>
  nS S1 w fun S2 =>
  gdT t69 true (fun k15 => tk Tryd.prog S2 (Instr.loadAt 40 t71) k15) fun t72 =>
  gd t69 true (fun k16 => o1 Tryd.prog (Instr.buildSlice 33 1 #[(0, .int .u8 97)]) w k16) w fun t73 w =>
  S2 w ∧
  gd t69 true (fun k17 => o1 Tryd.prog (convert 33 33 t73) w k17) w fun t74 w =>
  S2 w ∧
  gd t69 true (fun k18 => C Tryd.prog N.txs_Hash #[t74] w k18) w fun t75 w =>
  S2 w ∧
  gdT t69 true (fun k19 => tk Tryd.prog S2 (bin .eql 40 (.tmp 72) (.tmp 75) t72 t75) k19) fun t76 =>
  pk t69 t76 (.bool false) fun t77 =>
  mv t77 fun t78 =>
  gdT t78 true (fun k20 => mv t1 k20) fun t79 =>
  gd t78 true (fun k21 => C Tryd.prog N.pool_Pool_Len #[t79] w k21) w fun t80 w =>
  S2 w ∧
  gdT t78 true (fun k22 => tk Tryd.prog S2 (bin .eql 3 (.tmp 80) (.const (.int .i64 2)) t80 (.int .i64 2)) k22) fun t81 =>
  pk t78 t81 (.bool false) fun t82 =>
  mv t82 fun t0_2 =>
  k t0_2 w)
theorem C.isthmuslaw18_sure {k : Value → World → Prop} {w : World} (h : F.isthmuslaw18_sure k  w) : C Tryd.prog N.isthmuslaw18_sure #[] w k :=
  den_calls (H := { moves := [(8, (.take 0 (.take 1 (.take 2 (.take 3 (.take 4 (.take 5 (.take 6 (.take 7 (.take 8 (.take 9 (.take 10 (.take 11 (.force 12 (.take 13 (.take 14 (.take 15 (.take 16 (.take 17 (.take 18 (.take 19 (.take 20 (.take 21 (.take 22 (.renew (.take 23 (.force 24 (.force 25 (.force 26 (.take 27 (.take 28 (.take 29 (.take 30 (.force 31 (.take 32 (.take 33 (.take 34 .fin)))))))))))))))))))))))))))))))))))))], vars := [0, 1, 2, 3, 4, 5, 6, 7, 8, 9, 10] }) (args := []) mixed Tryd.func12 (by kernel_rfl) (by kernel_rfl) (by kernel_rfl) h

-- (*isthmus/pool.Pool).Take
-- (*isthmus/pool.Pool).Done
def F.pool_Pool_Done (k : Value → World → Prop) (a0 a1 : Value) (w : World) : Prop :=
  mv a0 fun t7 =>
  o1 Tryd.prog (bin .eql 26 (.tmp 7) (.const (.pointer none)) t7 (.pointer none)) w fun t8 w =>
  br t8 (fun _ =>
  k (.tuple #[]) w) (fun _ =>
  mv a1 fun t9 =>
  o1 Tryd.prog (Builtin.len_ #[34] 3 #[t9]) w fun t10 w =>
  mv (.int .i64 0) fun t11 =>
  lp [undef, t11] w fun I1 μ1 => ∀ (x1 : Env) (w1 : World), I1 [x1 5, x1 11] w1 →
  o1 Tryd.prog (bin .lss 3 (.tmp 11) (.tmp 10) (x1 11) t10) w1 fun t12 w =>
  br t12 (fun _ =>
  o1 Tryd.prog (Instr.indexAt 34 t9 (x1 11)) w fun t13 w =>
  o1 Tryd.prog (Instr.loadAt 33 t13) w fun t14 w =>
  mv t14 fun t5 =>
  mv t5 fun t15 =>
  C Tryd.prog N.txs_Hash #[t15] w fun t16 w =>
  o1 Tryd.prog (Instr.alloc 40 true (.tuple #[])) w fun t6 w =>
  o0 Tryd.prog (Instr.storeAt 40 t6 t16) w fun _ w =>
  mv a0 fun t17 =>
  o1 Tryd.prog (Instr.loadAt 40 t6) w fun t18 w =>
  C Tryd.prog N.pool_Pool_drop #[t17, t18] w fun t19 w =>
  mv a0 fun t20 =>
  o1 Tryd.prog (Instr.loadAt 40 t6) w fun t21 w =>
  C Tryd.prog N.pool_Pool_remember #[t20, t21] w fun t22 w =>
  o1 Tryd.prog (bin .add 3 (.tmp 11) (.const (.int .i64 1)) (x1 11) (.int .i64 1)) w fun t23 w =>
  mv t23 fun t11_1 =>
  I1 [t5, t11_1] w ∧ μ1 [t5, t11_1] w < μ1 [x1 5, x1 11] w1) (fun _ =>
  k (.tuple #[]) w))
theorem C.pool_Pool_Done {k : Value → World → Prop} {a0 a1 : Value} {w : World} (h : F.pool_Pool_Done k a0 a1 w) : C Tryd.prog N.pool_Pool_Done #[a0, a1] w k :=
  den_calls (H := { moves := [], vars := [5, 11] }) (args := [a0, a1]) mixed Tryd.func14 (by kernel_rfl) (by kernel_rfl) (by kernel_rfl) h

-- (*isthmus/pool.Pool).Knows
def F.pool_Pool_Knows (k : Value → World → Prop) (a0 a1 : Value) (w : World) : Prop :=
  o1 Tryd.prog (Instr.box 40 a1) w fun t3 w =>
  mv (.bool false) fun t4 =>
  dr w.drew fun S1 =>
  mv a0 fun t5 =>
  tk Tryd.prog S1 (Instr.loadAt 40 t3) fun t6 =>
  C Tryd.prog N.pool_Pool_Has #[t5, t6] w.drew fun t7 w =>
  S1 w ∧
  mv t7 fun t8 =>
  gdT t8 false (fun k1 => mv a0 k1) fun t9 =>
  gdT t8 false (fun k2 => tk Tryd.prog S1 (bin .neq 26 (.tmp 9) (.const (.pointer none)) t9 (.pointer none)) k2) fun t10 =>
  gdT t8 false (fun k3 => mv t10 k3) fun t11 =>
  gdT t11 true (fun k4 => mv a0 k4) fun t12 =>
  gdT t11 true (fun k5 => nilOk t12 = true ∧ mv t12 k5) fun t13 =>
  gdT t11 true (fun k6 => tk Tryd.prog S1 (Instr.fieldAt 58 t13 4) k6) fun t14 =>
  nS S1 w fun S2 =>
  gdT t11 true (fun k7 => tk Tryd.prog S2 (Instr.loadAt 32 t14) k7) fun t15 =>
  gdT t11 true (fun k8 => tk Tryd.prog S2 (Instr.loadAt 40 t3) k8) fun t16 =>
  gd t11 true (fun k9 => C Tryd.prog N.slices_Contains_api_Hash_api_Hash #[t15, t16] w k9) w fun t17 w =>
  S2 w ∧
  gdT t8 false (fun k10 => pk t11 t17 (.bool false) k10) fun t18 =>
  pk t8 (.bool true) t18 fun t19 =>
  mv t19 fun t4_1 =>
  k t4_1 w
theorem C.pool_Pool_Knows {k : Value → World → Prop} {a0 a1 : Value} {w : World} (h : F.pool_Pool_Knows k a0 a1 w) : C Tryd.prog N.pool_Pool_Knows #[a0, a1] w k :=
  den_calls (H := { moves := [(1, (.take 0 (.take 1 (.force 2 (.take 3 (.take 4 (.take 5 (.take 6 (.take 7 (.take 8 (.take 9 (.renew (.take 10 (.take 11 (.force 12 (.take 13 (.take 14 (.take 15 .fin))))))))))))))))))], vars := [4] }) (args := [a0, a1]) mixed Tryd.func15 (by kernel_rfl) (by kernel_rfl) (by kernel_rfl) h

-- isthmus/isthmuslaw18.num
def F.isthmuslaw18_num (k : Value → World → Prop) (a0 : Value) (w : World) : Prop :=
  mv (.int .i64 0) fun t2 =>
  o1 Tryd.prog (Instr.alloc 55 true (.tuple #[])) w fun t3 w =>
  mv a0 fun t4 =>
  o1 Tryd.prog (bin .eql 28 (.tmp 4) (.const .nilIface) t4 .nilIface) w fun t5 w =>
  br t5 (fun _ =>
  mv (.int .i64 0) fun t2_1 =>
  k t2_1 w) (fun _ =>
  mv a0 fun t6 =>
  o1 Tryd.prog (Instr.makeInterface 72 t3) w fun t7 w =>
  C Tryd.prog N.errors_As #[t6, t7] w fun t8 w =>
  br t8 (fun _ =>
  o1 Tryd.prog (Instr.loadAt 55 t3) w fun t9 w =>
  mv t9 fun t2_2 =>
  k t2_2 w) (fun _ =>
  mv (.int .i64 (-1)) fun t2_3 =>
  k t2_3 w))
theorem C.isthmuslaw18_num {k : Value → World → Prop} {a0 : Value} {w : World} (h : F.isthmuslaw18_num k a0 w) : C Tryd.prog N.isthmuslaw18_num #[a0] w k :=
  den_calls (H := { moves := [], vars := [2] }) (args := [a0]) mixed Tryd.func16 (by kernel_rfl) (by kernel_rfl) (by kernel_rfl) h

-- (*isthmus/pool.Pool).Drop
def F.pool_Pool_Drop (k : Value → World → Prop) (a0 a1 : Value) (w : World) : Prop :=
  o1 Tryd.prog (Instr.box 40 a1) w fun t3 w =>
  mv .nilIface fun t4 =>
  mv a0 fun t6 =>
  o1 Tryd.prog (bin .eql 26 (.tmp 6) (.const (.pointer none)) t6 (.pointer none)) w fun t7 w =>
  mv t7 fun t5 =>
  br t5 (fun _ =>
  C Tryd.prog N.pool_fault #[.string ⟨#[112, 111, 111, 108]⟩, .int .i64 1] w fun t8 w =>
  mv t8 fun t4_1 =>
  k t4_1 w) (fun _ =>
  mv a0 fun t10 =>
  o1 Tryd.prog (Instr.loadAt 40 t3) w fun t11 w =>
  C Tryd.prog N.pool_Pool_drop #[t10, t11] w fun t12 w =>
  o1 Tryd.prog (Op.unary .not t12) w fun t13 w =>
  mv t13 fun t9 =>
  br t9 (fun _ =>
  C Tryd.prog N.pool_fault #[.string ⟨#[116, 114, 97, 110, 115, 97, 99, 116, 105, 111, 110]⟩, .int .i64 8] w fun t14 w =>
  mv t14 fun t4_2 =>
  k t4_2 w) (fun _ =>
  mv a0 fun t15 =>
  o1 Tryd.prog (Instr.loadAt 40 t3) w fun t16 w =>
  C Tryd.prog N.pool_Pool_forget #[t15, t16] w fun t17 w =>
  mv .nilIface fun t4_3 =>
  k t4_3 w))
theorem C.pool_Pool_Drop {k : Value → World → Prop} {a0 a1 : Value} {w : World} (h : F.pool_Pool_Drop k a0 a1 w) : C Tryd.prog N.pool_Pool_Drop #[a0, a1] w k :=
  den_calls (H := { moves := [], vars := [4, 5, 9] }) (args := [a0, a1]) mixed Tryd.func17 (by kernel_rfl) (by kernel_rfl) (by kernel_rfl) h

-- isthmus/pool.New$1
def F.pool_New_1 (k : Value → World → Prop) (a0 : Value) (w : World) : Prop :=
  mv (.bool false) fun t2 =>
  mv a0 fun t3 =>
  o1 Tryd.prog (bin .lss 3 (.tmp 3) (.const (.int .i64 1)) t3 (.int .i64 1)) w fun t4 w =>
  mv t4 fun t5 =>
  gd t5 false (fun k1 => mv a0 fun v => k1 v w) w fun t6 w =>
  gd t5 false (fun k2 => o1 Tryd.prog (bin .gtr 3 (.tmp 6) (.const (.int .i64 1048576)) t6 (.int .i64 1048576)) w k2) w fun t7 w =>
  pk t5 (.bool true) t7 fun t8 =>
  mv t8 fun t2_1 =>
  k t2_1 w
theorem C.pool_New_1 {k : Value → World → Prop} {a0 : Value} {w : World} (h : F.pool_New_1 k a0 w) : C Tryd.prog N.pool_New_1 #[a0] w k :=
  den_calls (H := { moves := [], vars := [2] }) (args := [a0]) mixed Tryd.func18 (by kernel_rfl) (by kernel_rfl) (by kernel_rfl) h

-- isthmus/pool.fault
def F.pool_fault (k : Value → World → Prop) (a0 a1 : Value) (w : World) : Prop :=
  mv .nilIface fun t4 =>
  mv a0 fun t5 =>
  mv a1 fun t6 =>
  o1 Tryd.prog (Instr.makeInterface 55 t6) w fun t7 w =>
  o1 Tryd.prog (Instr.build 75 #[(0, t5), (1, t7)]) w fun t8 w =>
  o1 Tryd.prog (Instr.box 75 t8) w fun t9 w =>
  o1 Tryd.prog (Instr.makeInterface 73 t9) w fun t10 w =>
  mv t10 fun t4_1 =>
  k t4_1 w
theorem C.pool_fault {k : Value → World → Prop} {a0 a1 : Value} {w : World} (h : F.pool_fault k a0 a1 w) : C Tryd.prog N.pool_fault #[a0, a1] w k :=
  den_calls (H := { moves := [], vars := [4] }) (args := [a0, a1]) mixed Tryd.func19 (by kernel_rfl) (by kernel_rfl) (by kernel_rfl) h

-- slices.Clone[[]byte,byte]
def F.slices_Clone_bytes (k : Value → World → Prop) (a0 : Value) (w : World) : Prop :=
  mv (.slice none 0 0) fun t2 =>
  mv a0 fun t3 =>
  o1 Tryd.prog (bin .eql 33 (.tmp 3) (.const (.slice none 0 0)) t3 (.slice none 0 0)) w fun t4 w =>
  br t4 (fun _ =>
  mv (.slice none 0 0) fun t2_1 =>
  k t2_1 w) (fun _ =>
  o1 Tryd.prog (Instr.buildSlice 33 0 #[]) w fun t5 w =>
  mv a0 fun t6 =>
  ob Tryd.prog (fun _ => Builtin.append_ #[33, 33] 33 #[t5, t6]) w fun t7 w =>
  mv t7 fun t2_2 =>
  k t2_2 w)
theorem C.slices_Clone_bytes {k : Value → World → Prop} {a0 : Value} {w : World} (h : F.slices_Clone_bytes k a0 w) : C Tryd.prog N.slices_Clone_bytes #[a0] w k :=
  den_calls (H := { moves := [], vars := [2] }) (args := [a0]) mixed Tryd.func20 (by kernel_rfl) (by kernel_rfl) (by kernel_rfl) h

-- slices.Clone[[]isthmus/pool.item,isthmus/pool.item]
def F.slices_Clone_pool_item_pool_item (k : Value → World → Prop) (a0 : Value) (w : World) : Prop :=
  mv (.slice none 0 0) fun t2 =>
  mv a0 fun t3 =>
  o1 Tryd.prog (bin .eql 56 (.tmp 3) (.const (.slice none 0 0)) t3 (.slice none 0 0)) w fun t4 w =>
  br t4 (fun _ =>
  mv (.slice none 0 0) fun t2_1 =>
  k t2_1 w) (fun _ =>
  o1 Tryd.prog (Instr.buildSlice 56 0 #[]) w fun t5 w =>
  mv a0 fun t6 =>
  ob Tryd.prog (fun _ => Builtin.append_ #[56, 56] 56 #[t5, t6]) w fun t7 w =>
  mv t7 fun t2_2 =>
  k t2_2 w)
theorem C.slices_Clone_pool_item_pool_item {k : Value → World → Prop} {a0 : Value} {w : World} (h : F.slices_Clone_pool_item_pool_item k a0 w) : C Tryd.prog N.slices_Clone_pool_item_pool_item #[a0] w k :=
  den_calls (H := { moves := [], vars := [2] }) (args := [a0]) mixed Tryd.func21 (by kernel_rfl) (by kernel_rfl) (by kernel_rfl) h

-- isthmus/pool.size
def F.pool_size (k : Value → World → Prop) (a0 : Value) (w : World) : Prop :=
  mv (.int .i64 0) fun t2 =>
  mv (.int .i64 0) fun t3 =>
  mv a0 fun t6 =>
  o1 Tryd.prog (Builtin.len_ #[56] 3 #[t6]) w fun t7 w =>
  mv (.int .i64 0) fun t8 =>
  lp [t3, t8] w fun I1 μ1 => ∀ (x1 : Env) (w1 : World), I1 [x1 3, x1 8] w1 →
  o1 Tryd.prog (bin .lss 3 (.tmp 8) (.tmp 7) (x1 8) t7) w1 fun t9 w =>
  br t9 (fun _ =>
  o1 Tryd.prog (Instr.indexAt 56 t6 (x1 8)) w fun t10 w =>
  o1 Tryd.prog (Instr.loadAt 61 t10) w fun t11 w =>
  o1 Tryd.prog (Instr.alloc 61 true (.tuple #[])) w fun t5 w =>
  o0 Tryd.prog (Instr.storeAt 61 t5 t11) w fun _ w =>
  mv (x1 3) fun t12 =>
  o1 Tryd.prog (Instr.fieldAt 61 t5 0) w fun t13 w =>
  o1 Tryd.prog (Instr.loadAt 33 t13) w fun t14 w =>
  o1 Tryd.prog (Builtin.len_ #[33] 3 #[t14]) w fun t15 w =>
  o1 Tryd.prog (bin .add 3 (.tmp 12) (.tmp 15) t12 t15) w fun t16 w =>
  mv t16 fun t3_1 =>
  o1 Tryd.prog (bin .add 3 (.tmp 8) (.const (.int .i64 1)) (x1 8) (.int .i64 1)) w fun t17 w =>
  mv t17 fun t8_1 =>
  I1 [t3_1, t8_1] w ∧ μ1 [t3_1, t8_1] w < μ1 [x1 3, x1 8] w1) (fun _ =>
  mv (x1 3) fun t18 =>
  mv t18 fun t2_1 =>
  k t2_1 w)
theorem C.pool_size {k : Value → World → Prop} {a0 : Value} {w : World} (h : F.pool_size k a0 w) : C Tryd.prog N.pool_size #[a0] w k :=
  den_calls (H := { moves := [], vars := [2, 3, 8] }) (args := [a0]) mixed Tryd.func22 (by kernel_rfl) (by kernel_rfl) (by kernel_rfl) h

-- slices.SortFunc[[]isthmus/pool.item,isthmus/pool.item]
def F.slices_SortFunc_pool_item_pool_item (k : Value → World → Prop) (a0 a1 : Value) (w : World) : Prop :=
  mv a0 fun t5 =>
  o1 Tryd.prog (Builtin.len_ #[56] 3 #[t5]) w fun t6 w =>
  mv t6 fun t4 =>
  mv a0 fun t7 =>
  mv t4 fun t8 =>
  mv t4 fun t9 =>
  o1 Tryd.prog (convert 3 25 t9) w fun t10 w =>
  C Tryd.prog N.math_bits_Len #[t10] w fun t11 w =>
  mv a1 fun t12 =>
  C Tryd.prog N.slices_pdqsortCmpFunc_pool_item #[t7, .int .i64 0, t8, t11, t12] w fun t13 w =>
  k (.tuple #[]) w
theorem C.slices_SortFunc_pool_item_pool_item {k : Value → World → Prop} {a0 a1 : Value} {w : World} (h : F.slices_SortFunc_pool_item_pool_item k a0 a1 w) : C Tryd.prog N.slices_SortFunc_pool_item_pool_item #[a0, a1] w k :=
  den_calls (H := { moves := [], vars := [4] }) (args := [a0, a1]) mixed Tryd.func23 (by kernel_rfl) (by kernel_rfl) (by kernel_rfl) h

-- (isthmus/pool.item).before
def F.pool_item_before (k : Value → World → Prop) (a0 a1 : Value) (w : World) : Prop :=
  o1 Tryd.prog (Instr.box 61 a0) w fun t2 w =>
  o1 Tryd.prog (Instr.box 61 a1) w fun t3 w =>
  mv (.int .i64 0) fun t4 =>
  dr w.drew fun S1 =>
  tk Tryd.prog S1 (Instr.fieldAt 61 t3 2) fun t5 =>
  tk Tryd.prog S1 (Instr.loadAt 3 t5) fun t6 =>
  tk Tryd.prog S1 (Instr.fieldAt 61 t2 2) fun t7 =>
  tk Tryd.prog S1 (Instr.loadAt 3 t7) fun t8 =>
  tk Tryd.prog S1 (Instr.fieldAt 61 t2 3) fun t10 =>
  tk Tryd.prog S1 (Instr.loadAt 3 t10) fun t11 =>
  tk Tryd.prog S1 (Instr.fieldAt 61 t3 3) fun t12 =>
  tk Tryd.prog S1 (Instr.loadAt 3 t12) fun t13 =>
  C Tryd.prog N.cmp_Compare_int #[t6, t8] w.drew fun t9 w =>
  S1 w ∧
  C Tryd.prog N.cmp_Compare_int #[t11, t13] w fun t14 w =>
  S1 w ∧
  o1 Tryd.prog (Instr.buildSlice 31 2 #[(0, t9), (1, t14)]) w fun t15 w =>
  S1 w ∧
  C Tryd.prog N.cmp_Or_int #[t15] w fun t16 w =>
  S1 w ∧
  mv t16 fun t4_1 =>
  k t4_1 w
theorem C.pool_item_before {k : Value → World → Prop} {a0 a1 : Value} {w : World} (h : F.pool_item_before k a0 a1 w) : C Tryd.prog N.pool_item_before #[a0, a1] w k :=
  den_calls (H := { moves := [(1, (.take 0 (.take 1 (.take 2 (.take 3 (.take 5 (.take 6 (.take 7 (.take 8 (.force 4 (.force 9 (.force 10 (.force 11 (.take 12 .fin))))))))))))))], vars := [4] }) (args := [a0, a1]) mixed Tryd.func24 (by kernel_rfl) (by kernel_rfl) (by kernel_rfl) h

-- (*isthmus/pool.Pool).remember
def F.pool_Pool_remember (k : Value → World → Prop) (a0 a1 : Value) (w : World) : Prop :=
  o1 Tryd.prog (Instr.box 40 a1) w fun t3 w =>
  mv a0 fun t4 =>
  o1 Tryd.prog (Instr.loadAt 40 t3) w fun t5 w =>
  C Tryd.prog N.pool_Pool_forget #[t4, t5] w fun t6 w =>
  dr w.drew fun S1 =>
  mv a0 fun t7 =>
  mv a0 fun t8 =>
  nilOk t8 = true ∧ mv t8 fun t9 =>
  tk Tryd.prog S1 (Instr.fieldAt 58 t9 4) fun t10 =>
  tk Tryd.prog S1 (Instr.loadAt 32 t10) fun t11 =>
  tk Tryd.prog S1 (Instr.loadAt 40 t3) fun t12 =>
  o1 Tryd.prog (Instr.buildSlice 32 1 #[(0, t12)]) w.drew fun t13 w =>
  S1 w ∧
  ob Tryd.prog (fun _ => Builtin.append_ #[32, 32] 32 #[t11, t13]) w fun t14 w =>
  S1 w ∧
  nilOk t7 = true ∧ mv t7 fun t15 =>
  tk Tryd.prog S1 (Instr.fieldAt 58 t15 4) fun t16 =>
  o0 Tryd.prog (Instr.storeAt 32 t16 t14) w fun _ w =>
  dr w.drew fun S2 =>
  mv a0 fun t17 =>
  mv a0 fun t18 =>
  nilOk t18 = true ∧ mv t18 fun t19 =>
  tk Tryd.prog S2 (Instr.fieldAt 58 t19 4) fun t20 =>
  tk Tryd.prog S2 (Instr.loadAt 32 t20) fun t21 =>
  mv a0 fun t22 =>
  nilOk t22 = true ∧ mv t22 fun t23 =>
  tk Tryd.prog S2 (Instr.fieldAt 58 t23 4) fun t24 =>
  tk Tryd.prog S2 (Instr.loadAt 32 t24) fun t25 =>
  tk Tryd.prog S2 (Builtin.len_ #[32] 3 #[t25]) fun t26 =>
  mv a0 fun t27 =>
  nilOk t27 = true ∧ mv t27 fun t28 =>
  tk Tryd.prog S2 (Instr.fieldAt 58 t28 2) fun t29 =>
  tk Tryd.prog S2 (Instr.loadAt 3 t29) fun t30 =>
  tk Tryd.prog S2 (bin .sub 3 (.tmp 26) (.tmp 30) t26 t30) fun t31 =>
  tk Tryd.prog S2 (Builtin.max_ #[3, 3] 3 #[.int .i64 0, t31]) fun t32 =>
  tk Tryd.prog S2 (Instr.sliceAt 32 t21 (some t32) none none) fun t33 =>
  nilOk t17 = true ∧ mv t17 fun t34 =>
  tk Tryd.prog S2 (Instr.fieldAt 58 t34 4) fun t35 =>
  o0 Tryd.prog (Instr.storeAt 32 t35 t33) w.drew fun _ w =>
  k (.tuple #[]) w
theorem C.pool_Pool_remember {k : Value → World → Prop} {a0 a1 : Value} {w : World} (h : F.pool_Pool_remember k a0 a1 w) : C Tryd.prog N.pool_Pool_remember #[a0, a1] w k :=
  den_calls (H := { moves := [(2, (.take 0 (.take 1 (.take 2 (.take 3 (.take 4 (.take 5 (.force 6 (.force 7 (.take 8 (.take 9 (.last 10)))))))))))), (3, (.take 0 (.take 1 (.take 2 (.take 3 (.take 4 (.take 5 (.take 6 (.take 7 (.take 8 (.take 9 (.take 10 (.take 11 (.take 12 (.take 13 (.take 14 (.take 15 (.take 16 (.take 17 (.take 18 (.last 19)))))))))))))))))))))], vars := [] }) (args := [a0, a1]) mixed Tryd.func25 (by kernel_rfl) (by kernel_rfl) (by kernel_rfl) h

-- slices.ContainsFunc[[]isthmus/pool.item,isthmus/pool.item]
def F.slices_ContainsFunc_pool_item_pool_item (k : Value → World → Prop) (a0 a1 : Value) (w : World) : Prop :=
  mv (.bool false) fun t4 =>
  mv a0 fun t5 =>
  mv a1 fun t6 =>
  C Tryd.prog N.slices_IndexFunc_pool_item_pool_item #[t5, t6] w fun t7 w =>
  o1 Tryd.prog (bin .geq 3 (.tmp 7) (.const (.int .i64 0)) t7 (.int .i64 0)) w fun t8 w =>
  mv t8 fun t4_1 =>
  k t4_1 w
theorem C.slices_ContainsFunc_pool_item_pool_item {k : Value → World → Prop} {a0 a1 : Value} {w : World} (h : F.slices_ContainsFunc_pool_item_pool_item k a0 a1 w) : C Tryd.prog N.slices_ContainsFunc_pool_item_pool_item #[a0, a1] w k :=
  den_calls (H := { moves := [], vars := [4] }) (args := [a0, a1]) mixed Tryd.func26 (by kernel_rfl) (by kernel_rfl) (by kernel_rfl) h

-- (*isthmus/pool.Pool).Has$1
def F.pool_Pool_Has_1 (k : Value → World → Prop) (a0 a1 : Value) (w : World) : Prop :=
  o1 Tryd.prog (Instr.box 61 a0) w fun t2 w =>
  mv (.bool false) fun t3 =>
  o1 Tryd.prog (Instr.fieldAt 61 t2 1) w fun t4 w =>
  o1 Tryd.prog (Instr.loadAt 40 t4) w fun t5 w =>
  o1 Tryd.prog (Instr.loadAt 40 a1) w fun t6 w =>
  o1 Tryd.prog (bin .eql 40 (.tmp 5) (.tmp 6) t5 t6) w fun t7 w =>
  mv t7 fun t3_1 =>
  k t3_1 w
theorem C.pool_Pool_Has_1 {k : Value → World → Prop} {a0 a1 : Value} {w : World} (h : F.pool_Pool_Has_1 k a0 a1 w) : C Tryd.prog N.pool_Pool_Has_1 #[a0, a1] w k :=
  den_calls (H := { moves := [], vars := [3] }) (args := [a0, a1]) mixed Tryd.func27 (by kernel_rfl) (by kernel_rfl) (by kernel_rfl) h

-- isthmus/sha.Sum
def F.sha_Sum (k : Value → World → Prop) (a0 : Value) (w : World) : Prop :=
  o1 Tryd.prog (Instr.alloc 40 true (.tuple #[])) w fun t2 w =>
  C Tryd.prog N.sha_start #[] w fun t5 w =>
  mv a0 fun t6 =>
  o1 Tryd.prog (Builtin.len_ #[33] 3 #[t6]) w fun t7 w =>
  o1 Tryd.prog (convert 3 85 t7) w fun t8 w =>
  o1 Tryd.prog (Instr.alloc 83 true (.tuple #[])) w fun t3 w =>
  o0 Tryd.prog (Instr.storeAt 83 t3 t5) w fun _ w =>
  mv t8 fun t4 =>
  lp [a0] w fun I1 μ1 => ∀ (x1 : Env) (w1 : World), I1 [x1 0] w1 →
  mv (x1 0) fun t9 =>
  o1 Tryd.prog (Builtin.len_ #[33] 3 #[t9]) w1 fun t10 w =>
  o1 Tryd.prog (bin .geq 3 (.tmp 10) (.const (.int .i64 64)) t10 (.int .i64 64)) w fun t11 w =>
  br t11 (fun _ =>
  mv (x1 0) fun t12 =>
  o1 Tryd.prog (Instr.sliceAt 33 t12 none (some (.int .i64 64)) none) w fun t13 w =>
  C Tryd.prog N.sha_words_mix #[t3, t13] w fun t14 w =>
  mv (x1 0) fun t15 =>
  o1 Tryd.prog (Instr.sliceAt 33 t15 (some (.int .i64 64)) none none) w fun t16 w =>
  mv t16 fun t0 =>
  I1 [t0] w ∧ μ1 [t0] w < μ1 [x1 0] w1) (fun _ =>
  o1 Tryd.prog (Instr.loadAt 83 t3) w fun t17 w =>
  mv (x1 0) fun t18 =>
  mv t4 fun t19 =>
  C Tryd.prog N.sha_words_end #[t17, t18, t19] w fun t20 w =>
  o0 Tryd.prog (Instr.storeAt 40 t2 t20) w fun _ w =>
  rc Tryd.prog 40 t2 w fun r0 =>
  k r0 w)
theorem C.sha_Sum {k : Value → World → Prop} {a0 : Value} {w : World} (h : F.sha_Sum k a0 w) : C Tryd.prog N.sha_Sum #[a0] w k :=
  den_calls (H := { moves := [], vars := [0, 4] }) (args := [a0]) mixed Tryd.func28 (by kernel_rfl) (by kernel_rfl) (by kernel_rfl) h

-- (*isthmus/pool.Pool).drop
def F.pool_Pool_drop (k : Value → World → Prop) (a0 a1 : Value) (w : World) : Prop :=
  o1 Tryd.prog (Instr.box 40 a1) w fun t3 w =>
  mv (.bool false) fun t4 =>
  mv a0 fun t6 =>
  nilOk t6 = true ∧ mv t6 fun t7 =>
  o1 Tryd.prog (Instr.fieldAt 58 t7 3) w fun t8 w =>
  o1 Tryd.prog (Instr.loadAt 56 t8) w fun t9 w =>
  o1 Tryd.prog (Instr.makeFunc (.func 41) #[] #[t3]) w fun t10 w =>
  C Tryd.prog N.slices_IndexFunc_pool_item_pool_item #[t9, t10] w fun t11 w =>
  mv t11 fun t5 =>
  mv t5 fun t12 =>
  o1 Tryd.prog (bin .lss 3 (.tmp 12) (.const (.int .i64 0)) t12 (.int .i64 0)) w fun t13 w =>
  br t13 (fun _ =>
  mv (.bool false) fun t4_1 =>
  k t4_1 w) (fun _ =>
  mv a0 fun t14 =>
  mv a0 fun t15 =>
  nilOk t15 = true ∧ mv t15 fun t16 =>
  o1 Tryd.prog (Instr.fieldAt 58 t16 3) w fun t17 w =>
  o1 Tryd.prog (Instr.loadAt 56 t17) w fun t18 w =>
  mv t5 fun t19 =>
  mv t5 fun t20 =>
  o1 Tryd.prog (bin .add 3 (.tmp 20) (.const (.int .i64 1)) t20 (.int .i64 1)) w fun t21 w =>
  C Tryd.prog N.slices_Delete_pool_item_pool_item #[t18, t19, t21] w fun t22 w =>
  nilOk t14 = true ∧ mv t14 fun t23 =>
  o1 Tryd.prog (Instr.fieldAt 58 t23 3) w fun t24 w =>
  o0 Tryd.prog (Instr.storeAt 56 t24 t22) w fun _ w =>
  mv (.bool true) fun t4_2 =>
  k t4_2 w)
theorem C.pool_Pool_drop {k : Value → World → Prop} {a0 a1 : Value} {w : World} (h : F.pool_Pool_drop k a0 a1 w) : C Tryd.prog N.pool_Pool_drop #[a0, a1] w k :=
  den_calls (H := { moves := [], vars := [4, 5] }) (args := [a0, a1]) mixed Tryd.func29 (by kernel_rfl) (by kernel_rfl) (by kernel_rfl) h

-- slices.Contains[[]isthmus/api.Hash,isthmus/api.Hash]
def F.slices_Contains_api_Hash_api_Hash (k : Value → World → Prop) (a0 a1 : Value) (w : World) : Prop :=
  o1 Tryd.prog (Instr.box 40 a1) w fun t3 w =>
  mv (.bool false) fun t4 =>
  mv a0 fun t5 =>
  o1 Tryd.prog (Instr.loadAt 40 t3) w fun t6 w =>
  C Tryd.prog N.slices_Index_api_Hash_api_Hash #[t5, t6] w fun t7 w =>
  o1 Tryd.prog (bin .geq 3 (.tmp 7) (.const (.int .i64 0)) t7 (.int .i64 0)) w fun t8 w =>
  mv t8 fun t4_1 =>
  k t4_1 w
theorem C.slices_Contains_api_Hash_api_Hash {k : Value → World → Prop} {a0 a1 : Value} {w : World} (h : F.slices_Contains_api_Hash_api_Hash k a0 a1 w) : C Tryd.prog N.slices_Contains_api_Hash_api_Hash #[a0, a1] w k :=
  den_calls (H := { moves := [], vars := [4] }) (args := [a0, a1]) mixed Tryd.func30 (by kernel_rfl) (by kernel_rfl) (by kernel_rfl) h

-- errors.As
def F.errors_As (k : Value → World → Prop) (a0 a1 : Value) (w : World) : Prop :=
  mv (.bool false) fun t4 =>
  mv a0 fun t8 =>
  o1 Tryd.prog (bin .eql 28 (.tmp 8) (.const .nilIface) t8 .nilIface) w fun t9 w =>
  br t9 (fun _ =>
  mv (.bool false) fun t4_1 =>
  k t4_1 w) (fun _ =>
  mv a1 fun t10 =>
  o1 Tryd.prog (bin .eql 20 (.tmp 10) (.const .nilIface) t10 .nilIface) w fun t11 w =>
  jn (fun x1 => []) (fun k1 =>
  br t11 (fun _ =>
  o1 Tryd.prog (Instr.makeInterface 9 (.string ⟨#[101, 114, 114, 111, 114, 115, 58, 32, 116, 97, 114, 103, 101, 116, 32, 99, 97, 110, 110, 111, 116, 32, 98, 101, 32, 110, 105, 108]⟩)) w fun t12 w =>
  False) (fun _ =>
  k1 [] w)) fun x1 w =>
  mv a1 fun t13 =>
  oN Tryd.prog (callFunc N.internal_reflectlite_ValueOf #[t13]) w fun t14 w =>
  o1 Tryd.prog (Instr.alloc 93 true (.tuple #[])) w fun t5 w =>
  o0 Tryd.prog (Instr.storeAt 93 t5 t14) w fun _ w =>
  o1 Tryd.prog (Instr.loadAt 93 t5) w fun t15 w =>
  oN Tryd.prog (callFunc N.internal_reflectlite_Value_Type #[t15]) w fun t16 w =>
  mv t16 fun t6 =>
  mv t6 fun t17 =>
  iv Tryd.prog t17 "Kind" #[] w fun t18 w =>
  o1 Tryd.prog (bin .neq 98 (.tmp 18) (.const (.int .u8 22)) t18 (.int .u8 22)) w fun t19 w =>
  mv t19 fun t20 =>
  gd t20 false (fun k2 => o1 Tryd.prog (Instr.loadAt 93 t5) w k2) w fun t21 w =>
  gd t20 false (fun k3 => oN Tryd.prog (callFunc N.internal_reflectlite_Value_IsNil #[t21]) w k3) w fun t22 w =>
  pk t20 (.bool true) t22 fun t23 =>
  jn (fun x2 => []) (fun k4 =>
  br t23 (fun _ =>
  o1 Tryd.prog (Instr.makeInterface 9 (.string ⟨#[101, 114, 114, 111, 114, 115, 58, 32, 116, 97, 114, 103, 101, 116, 32, 109, 117, 115, 116, 32, 98, 101, 32, 97, 32, 110, 111, 110, 45, 110, 105, 108, 32, 112, 111, 105, 110, 116, 101, 114]⟩)) w fun t24 w =>
  False) (fun _ =>
  k4 [] w)) fun x2 w =>
  mv t6 fun t25 =>
  iv Tryd.prog t25 "Elem" #[] w fun t26 w =>
  mv t26 fun t7 =>
  mv t7 fun t27 =>
  iv Tryd.prog t27 "Kind" #[] w fun t28 w =>
  o1 Tryd.prog (bin .neq 98 (.tmp 28) (.const (.int .u8 20)) t28 (.int .u8 20)) w fun t29 w =>
  mv t29 fun t30 =>
  gd t30 true (fun k5 => mv t7 fun v => k5 v w) w fun t31 w =>
  gd t30 true (fun k6 => o1 Tryd.prog (Instr.loadAt 96 (.pointer (some ⟨0, 0, none⟩))) w k6) w fun t32 w =>
  gd t30 true (fun k7 => iv Tryd.prog t31 "Implements" #[t32] w k7) w fun t33 w =>
  gd t30 true (fun k8 => o1 Tryd.prog (Op.unary .not t33) w k8) w fun t34 w =>
  pk t30 t34 (.bool false) fun t35 =>
  jn (fun x3 => []) (fun k9 =>
  br t35 (fun _ =>
  o1 Tryd.prog (Instr.makeInterface 9 (.string ⟨#[101, 114, 114, 111, 114, 115, 58, 32, 42, 116, 97, 114, 103, 101, 116, 32, 109, 117, 115, 116, 32, 98, 101, 32, 105, 110, 116, 101, 114, 102, 97, 99, 101, 32, 111, 114, 32, 105, 109, 112, 108, 101, 109, 101, 110, 116, 32, 101, 114, 114, 111, 114]⟩)) w fun t36 w =>
  False) (fun _ =>
  k9 [] w)) fun x3 w =>
  mv a0 fun t37 =>
  mv a1 fun t38 =>
  o1 Tryd.prog (Instr.loadAt 93 t5) w fun t39 w =>
  mv t7 fun t40 =>
  C Tryd.prog N.errors_as #[t37, t38, t39, t40] w fun t41 w =>
  mv t41 fun t4_2 =>
  k t4_2 w)
theorem C.errors_As {k : Value → World → Prop} {a0 a1 : Value} {w : World} (h : F.errors_As k a0 a1 w) : C Tryd.prog N.errors_As #[a0, a1] w k :=
  den_calls (H := { moves := [], vars := [4, 6, 7] }) (args := [a0, a1]) mixed Tryd.func31 (by kernel_rfl) (by kernel_rfl) (by kernel_rfl) h

-- (*isthmus/pool.Pool).forget
def F.pool_Pool_forget (k : Value → World → Prop) (a0 a1 : Value) (w : World) : Prop :=
  o1 Tryd.prog (Instr.box 40 a1) w fun t3 w =>
  mv a0 fun t4 =>
  mv a0 fun t5 =>
  nilOk t5 = true ∧ mv t5 fun t6 =>
  o1 Tryd.prog (Instr.fieldAt 58 t6 4) w fun t7 w =>
  o1 Tryd.prog (Instr.loadAt 32 t7) w fun t8 w =>
  C Tryd.prog N.slices_Clone_api_Hash_api_Hash #[t8] w fun t9 w =>
  o1 Tryd.prog (Instr.makeFunc (.func 50) #[] #[t3]) w fun t10 w =>
  C Tryd.prog N.slices_DeleteFunc_api_Hash_api_Hash #[t9, t10] w fun t11 w =>
  nilOk t4 = true ∧ mv t4 fun t12 =>
  o1 Tryd.prog (Instr.fieldAt 58 t12 4) w fun t13 w =>
  o0 Tryd.prog (Instr.storeAt 32 t13 t11) w fun _ w =>
  k (.tuple #[]) w
theorem C.pool_Pool_forget {k : Value → World → Prop} {a0 a1 : Value} {w : World} (h : F.pool_Pool_forget k a0 a1 w) : C Tryd.prog N.pool_Pool_forget #[a0, a1] w k :=
  den_calls (H := { moves := [], vars := [] }) (args := [a0, a1]) mixed Tryd.func32 (by kernel_rfl) (by kernel_rfl) (by kernel_rfl) h

-- slices.pdqsortCmpFunc[isthmus/pool.item]
def F.slices_pdqsortCmpFunc_pool_item (k : Value → World → Prop) (a0 a1 a2 a3 a4 : Value) (w : World) : Prop :=
  mv (.bool true) fun t10 =>
  mv (.bool true) fun t11 =>
  lp [a1, a2, a3, t10, t11, undef, undef, undef, undef, undef, undef, undef, undef, undef] w fun I1 μ1 => ∀ (x1 : Env) (w1 : World), I1 [x1 1, x1 2, x1 3, x1 10, x1 11, x1 12, x1 13, x1 14, x1 15, x1 16, x1 17, x1 18, x1 19, x1 20] w1 →
  jn (fun x2 => [x2 1, x2 2, x2 3, x2 10, x2 11, x2 12, x2 13, x2 14, x2 15, x2 16, x2 17, x2 18, x2 19, x2 20]) (fun k1 =>
  mv (x1 2) fun t21 =>
  mv (x1 1) fun t22 =>
  o1 Tryd.prog (bin .sub 3 (.tmp 21) (.tmp 22) t21 t22) w1 fun t23 w =>
  mv t23 fun t12 =>
  mv t12 fun t24 =>
  o1 Tryd.prog (bin .leq 3 (.tmp 24) (.const (.int .i64 12)) t24 (.int .i64 12)) w fun t25 w =>
  br t25 (fun _ =>
  mv a0 fun t26 =>
  mv (x1 1) fun t27 =>
  mv (x1 2) fun t28 =>
  mv a4 fun t29 =>
  C Tryd.prog N.slices_insertionSortCmpFunc_pool_item #[t26, t27, t28, t29] w fun t30 w =>
  k (.tuple #[]) w) (fun _ =>
  mv (x1 3) fun t31 =>
  o1 Tryd.prog (bin .eql 3 (.tmp 31) (.const (.int .i64 0)) t31 (.int .i64 0)) w fun t32 w =>
  br t32 (fun _ =>
  mv a0 fun t33 =>
  mv (x1 1) fun t34 =>
  mv (x1 2) fun t35 =>
  mv a4 fun t36 =>
  C Tryd.prog N.slices_heapSortCmpFunc_pool_item #[t33, t34, t35, t36] w fun t37 w =>
  k (.tuple #[]) w) (fun _ =>
  mv (x1 10) fun t38 =>
  o1 Tryd.prog (Op.unary .not t38) w fun t39 w =>
  jn (fun x3 => [x3 3]) (fun k2 =>
  br t39 (fun _ =>
  mv a0 fun t40 =>
  mv (x1 1) fun t41 =>
  mv (x1 2) fun t42 =>
  mv a4 fun t43 =>
  C Tryd.prog N.slices_breakPatternsCmpFunc_pool_item #[t40, t41, t42, t43] w fun t44 w =>
  mv (x1 3) fun t45 =>
  o1 Tryd.prog (bin .sub 3 (.tmp 45) (.const (.int .i64 1)) t45 (.int .i64 1)) w fun t46 w =>
  mv t46 fun t3 =>
  k2 [t3] w) (fun _ =>
  k2 [(x1 3)] w)) fun x3 w =>
  mv a0 fun t48 =>
  mv (x1 1) fun t49 =>
  mv (x1 2) fun t50 =>
  mv a4 fun t51 =>
  C Tryd.prog N.slices_choosePivotCmpFunc_pool_item #[t48, t49, t50, t51] w fun t52 w =>
  mv t52 fun t47 =>
  o1 Tryd.prog (Instr.extract t47 0) w fun t53 w =>
  o1 Tryd.prog (Instr.extract t47 1) w fun t54 w =>
  mv t53 fun t13 =>
  mv t54 fun t14 =>
  mv t14 fun t55 =>
  o1 Tryd.prog (bin .eql 105 (.tmp 55) (.const (.int .i64 2)) t55 (.int .i64 2)) w fun t56 w =>
  jn (fun x4 => [x4 13, x4 14]) (fun k3 =>
  br t56 (fun _ =>
  mv a0 fun t57 =>
  mv (x1 1) fun t58 =>
  mv (x1 2) fun t59 =>
  mv a4 fun t60 =>
  C Tryd.prog N.slices_reverseRangeCmpFunc_pool_item #[t57, t58, t59, t60] w fun t61 w =>
  mv (x1 2) fun t62 =>
  o1 Tryd.prog (bin .sub 3 (.tmp 62) (.const (.int .i64 1)) t62 (.int .i64 1)) w fun t63 w =>
  mv t13 fun t64 =>
  mv (x1 1) fun t65 =>
  o1 Tryd.prog (bin .sub 3 (.tmp 64) (.tmp 65) t64 t65) w fun t66 w =>
  o1 Tryd.prog (bin .sub 3 (.tmp 63) (.tmp 66) t63 t66) w fun t67 w =>
  mv t67 fun t13_1 =>
  mv (.int .i64 1) fun t14_1 =>
  k3 [t13_1, t14_1] w) (fun _ =>
  k3 [t13, t14] w)) fun x4 w =>
  mv (x1 10) fun t68 =>
  mv t68 fun t69 =>
  gd t69 true (fun k4 => mv (x1 11) fun v => k4 v w) w fun t70 w =>
  pk t69 t70 (.bool false) fun t71 =>
  mv t71 fun t72 =>
  gd t72 true (fun k5 => mv (x4 14) fun v => k5 v w) w fun t73 w =>
  gd t72 true (fun k6 => o1 Tryd.prog (bin .eql 105 (.tmp 73) (.const (.int .i64 1)) t73 (.int .i64 1)) w k6) w fun t74 w =>
  pk t72 t74 (.bool false) fun t75 =>
  jn (fun x5 => []) (fun k7 =>
  br t75 (fun _ =>
  mv a0 fun t76 =>
  mv (x1 1) fun t77 =>
  mv (x1 2) fun t78 =>
  mv a4 fun t79 =>
  C Tryd.prog N.slices_partialInsertionSortCmpFunc_pool_item #[t76, t77, t78, t79] w fun t80 w =>
  br t80 (fun _ =>
  k (.tuple #[]) w) (fun _ =>
  k7 [] w)) (fun _ =>
  k7 [] w)) fun x5 w =>
  dr w.drew fun S1 =>
  mv (x1 1) fun t81 =>
  tk Tryd.prog S1 (bin .gtr 3 (.tmp 81) (.const (.int .i64 0)) t81 (.int .i64 0)) fun t82 =>
  mv t82 fun t83 =>
  gdT t83 true (fun k8 => mv a4 k8) fun t84 =>
  gdT t83 true (fun k9 => mv a0 k9) fun t85 =>
  gdT t83 true (fun k10 => mv (x1 1) k10) fun t86 =>
  gdT t83 true (fun k11 => tk Tryd.prog S1 (bin .sub 3 (.tmp 86) (.const (.int .i64 1)) t86 (.int .i64 1)) k11) fun t87 =>
  gdT t83 true (fun k12 => tk Tryd.prog S1 (Instr.indexAt 56 t85 t87) k12) fun t88 =>
  gdT t83 true (fun k13 => tk Tryd.prog S1 (Instr.loadAt 61 t88) k13) fun t89 =>
  gdT t83 true (fun k14 => mv a0 k14) fun t90 =>
  gdT t83 true (fun k15 => mv (x4 13) k15) fun t91 =>
  gdT t83 true (fun k16 => tk Tryd.prog S1 (Instr.indexAt 56 t90 t91) k16) fun t92 =>
  gdT t83 true (fun k17 => tk Tryd.prog S1 (Instr.loadAt 61 t92) k17) fun t93 =>
  gd t83 true (fun k18 => cv Tryd.prog t84 #[t89, t93] w.drew k18) w.drew fun t94 w =>
  S1 w ∧
  gdT t83 true (fun k19 => tk Tryd.prog S1 (bin .lss 3 (.tmp 94) (.const (.int .i64 0)) t94 (.int .i64 0)) k19) fun t95 =>
  gdT t83 true (fun k20 => tk Tryd.prog S1 (Op.unary .not t95) k20) fun t96 =>
  pk t83 t96 (.bool false) fun t97 =>
  br t97 (fun _ =>
  mv a0 fun t98 =>
  mv (x1 1) fun t99 =>
  mv (x1 2) fun t100 =>
  mv (x4 13) fun t101 =>
  mv a4 fun t102 =>
  C Tryd.prog N.slices_partitionEqualCmpFunc_pool_item #[t98, t99, t100, t101, t102] w fun t103 w =>
  mv t103 fun t15 =>
  mv t15 fun t104 =>
  mv t104 fun t1 =>
  k1 [t1, (x1 2), (x3 3), (x1 10), (x1 11), t12, (x4 13), (x4 14), t15, (x1 16), (x1 17), (x1 18), (x1 19), (x1 20)] w) (fun _ =>
  mv a0 fun t106 =>
  mv (x1 1) fun t107 =>
  mv (x1 2) fun t108 =>
  mv (x4 13) fun t109 =>
  mv a4 fun t110 =>
  C Tryd.prog N.slices_partitionCmpFunc_pool_item #[t106, t107, t108, t109, t110] w fun t111 w =>
  mv t111 fun t105 =>
  o1 Tryd.prog (Instr.extract t105 0) w fun t112 w =>
  o1 Tryd.prog (Instr.extract t105 1) w fun t113 w =>
  mv t112 fun t16 =>
  mv t113 fun t17 =>
  mv t17 fun t114 =>
  mv t114 fun t11_1 =>
  mv t16 fun t115 =>
  mv (x1 1) fun t116 =>
  o1 Tryd.prog (bin .sub 3 (.tmp 115) (.tmp 116) t115 t116) w fun t117 w =>
  mv (x1 2) fun t118 =>
  mv t16 fun t119 =>
  o1 Tryd.prog (bin .sub 3 (.tmp 118) (.tmp 119) t118 t119) w fun t120 w =>
  mv t117 fun t18 =>
  mv t120 fun t19 =>
  mv t12 fun t121 =>
  o1 Tryd.prog (bin .quo 3 (.tmp 121) (.const (.int .i64 8)) t121 (.int .i64 8)) w fun t122 w =>
  mv t122 fun t20 =>
  mv t18 fun t123 =>
  mv t19 fun t124 =>
  o1 Tryd.prog (bin .lss 3 (.tmp 123) (.tmp 124) t123 t124) w fun t125 w =>
  jn (fun x6 => [x6 1, x6 2, x6 10]) (fun k21 =>
  br t125 (fun _ =>
  mv t18 fun t126 =>
  mv t20 fun t127 =>
  o1 Tryd.prog (bin .geq 3 (.tmp 126) (.tmp 127) t126 t127) w fun t128 w =>
  mv t128 fun t10_1 =>
  mv a0 fun t129 =>
  mv (x1 1) fun t130 =>
  mv t16 fun t131 =>
  mv (x3 3) fun t132 =>
  mv a4 fun t133 =>
  C Tryd.prog N.slices_pdqsortCmpFunc_pool_item #[t129, t130, t131, t132, t133] w fun t134 w =>
  mv t16 fun t135 =>
  o1 Tryd.prog (bin .add 3 (.tmp 135) (.const (.int .i64 1)) t135 (.int .i64 1)) w fun t136 w =>
  mv t136 fun t1_1 =>
  k21 [t1_1, (x1 2), t10_1] w) (fun _ =>
  mv t19 fun t137 =>
  mv t20 fun t138 =>
  o1 Tryd.prog (bin .geq 3 (.tmp 137) (.tmp 138) t137 t138) w fun t139 w =>
  mv t139 fun t10_2 =>
  mv a0 fun t140 =>
  mv t16 fun t141 =>
  o1 Tryd.prog (bin .add 3 (.tmp 141) (.const (.int .i64 1)) t141 (.int .i64 1)) w fun t142 w =>
  mv (x1 2) fun t143 =>
  mv (x3 3) fun t144 =>
  mv a4 fun t145 =>
  C Tryd.prog N.slices_pdqsortCmpFunc_pool_item #[t140, t142, t143, t144, t145] w fun t146 w =>
  mv t16 fun t147 =>
  mv t147 fun t2 =>
  k21 [(x1 1), t2, t10_2] w)) fun x6 w =>
  k1 [(x6 1), (x6 2), (x3 3), (x6 10), t11_1, t12, (x4 13), (x4 14), (x1 15), t16, t17, t18, t19, t20] w)))) fun x2 w =>
  I1 [(x2 1), (x2 2), (x2 3), (x2 10), (x2 11), (x2 12), (x2 13), (x2 14), (x2 15), (x2 16), (x2 17), (x2 18), (x2 19), (x2 20)] w ∧ μ1 [(x2 1), (x2 2), (x2 3), (x2 10), (x2 11), (x2 12), (x2 13), (x2 14), (x2 15), (x2 16), (x2 17), (x2 18), (x2 19), (x2 20)] w < μ1 [x1 1, x1 2, x1 3, x1 10, x1 11, x1 12, x1 13, x1 14, x1 15, x1 16, x1 17, x1 18, x1 19, x1 20] w1
theorem C.slices_pdqsortCmpFunc_pool_item {k : Value → World → Prop} {a0 a1 a2 a3 a4 : Value} {w : World} (h : F.slices_pdqsortCmpFunc_pool_item k a0 a1 a2 a3 a4 w) : C Tryd.prog N.slices_pdqsortCmpFunc_pool_item #[a0, a1, a2, a3, a4] w k :=
  den_calls (H := { moves := [(17, (.take 0 (.take 1 (.take 2 (.take 3 (.take 4 (.take 5 (.take 6 (.take 7 (.take 8 (.take 9 (.take 10 (.take 11 (.take 12 (.force 13 (.take 14 (.take 15 (.take 16 .fin))))))))))))))))))], vars := [1, 2, 3, 10, 11, 12, 13, 14, 15, 16, 17, 18, 19, 20] }) (args := [a0, a1, a2, a3, a4]) mixed Tryd.func33 (by kernel_rfl) (by kernel_rfl) (by kernel_rfl) h

-- math/bits.Len
def F.math_bits_Len (k : Value → World → Prop) (a0 : Value) (w : World) : Prop :=
  mv (.int .i64 0) fun t2 =>
  br (.bool false) (fun _ =>
  mv a0 fun t3 =>
  o1 Tryd.prog (convert 25 81 t3) w fun t4 w =>
  C Tryd.prog N.math_bits_Len32 #[t4] w fun t5 w =>
  mv t5 fun t2_1 =>
  k t2_1 w) (fun _ =>
  mv a0 fun t6 =>
  C Tryd.prog N.math_bits_Len64 #[t6] w fun t7 w =>
  mv t7 fun t2_2 =>
  k t2_2 w)
theorem C.math_bits_Len {k : Value → World → Prop} {a0 : Value} {w : World} (h : F.math_bits_Len k a0 w) : C Tryd.prog N.math_bits_Len #[a0] w k :=
  den_calls (H := { moves := [], vars := [2] }) (args := [a0]) mixed Tryd.func34 (by kernel_rfl) (by kernel_rfl) (by kernel_rfl) h

end Go.Proofs.YtgagekffmamldaaDoor
