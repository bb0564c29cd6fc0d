/- What each function asks: printed by hoas.py off the loaded program; each is held against the program by the kernel. -/
import Derived.Test.YtlfelmikcdmkhaaDoorN
set_option linter.unusedVariables false
set_option linter.unusedSimpArgs false
set_option linter.unusedSectionVars false
namespace Go.Proofs.YtlfelmikcdmkhaaDoor
open Go Go.Isk
set_option maxRecDepth 100000
-- isthmus/wots.digest
def F.wots_digest (k : Value → World → Prop) (a0 : Value) (w : World) : Prop :=
  mv (.bool false) fun t2 =>
  mv a0 fun t3 =>
  o1 Tryd.prog (bin .geq 3 (.tmp 3) (.const (.int .i64 1)) t3 (.int .i64 1)) w fun t4 w =>
  mv t4 fun t5 =>
  gd t5 true (fun k1 => mv a0 fun v => k1 v w) w fun t6 w =>
  gd t5 true (fun k2 => o1 Tryd.prog (bin .leq 3 (.tmp 6) (.const (.int .i64 32)) t6 (.int .i64 32)) w k2) w fun t7 w =>
  pk t5 t7 (.bool false) fun t8 =>
  mv t8 fun t2_1 =>
  k t2_1 w
theorem C.wots_digest {k : Value → World → Prop} {a0 : Value} {w : World} (h : F.wots_digest k a0 w) : C Tryd.prog N.wots_digest #[a0] w k :=
  den_calls (H := { moves := [], vars := [2] }) (args := [a0]) mixed Tryd.func91 (by kernel_rfl) (by kernel_rfl) (by kernel_rfl) h

-- isthmus/wots.fault
def F.wots_fault (k : Value → World → Prop) (a0 a1 : Value) (w : World) : Prop :=
  mv .nilIface fun t4 =>
  mv a0 fun t5 =>
  mv a1 fun t6 =>
  o1 Tryd.prog (Instr.makeInterface 80 t6) w fun t7 w =>
  o1 Tryd.prog (Instr.build 113 #[(0, t5), (1, t7)]) w fun t8 w =>
  o1 Tryd.prog (Instr.box 113 t8) w fun t9 w =>
  o1 Tryd.prog (Instr.makeInterface 111 t9) w fun t10 w =>
  mv t10 fun t4_1 =>
  k t4_1 w
theorem C.wots_fault {k : Value → World → Prop} {a0 a1 : Value} {w : World} (h : F.wots_fault k a0 a1 w) : C Tryd.prog N.wots_fault #[a0, a1] w k :=
  den_calls (H := { moves := [], vars := [4] }) (args := [a0, a1]) mixed Tryd.func92 (by kernel_rfl) (by kernel_rfl) (by kernel_rfl) h

-- isthmus/sha.Sum
def F.sha_Sum (k : Value → World → Prop) (a0 : Value) (w : World) : Prop :=
  o1 Tryd.prog (Instr.alloc 23 true (.tuple #[])) w fun t2 w =>
  C Tryd.prog N.sha_start #[] w fun t5 w =>
  mv a0 fun t6 =>
  o1 Tryd.prog (Builtin.len_ #[33] 3 #[t6]) w fun t7 w =>
  o1 Tryd.prog (convert 3 107 t7) w fun t8 w =>
  o1 Tryd.prog (Instr.alloc 181 true (.tuple #[])) w fun t3 w =>
  o0 Tryd.prog (Instr.storeAt 181 t3 t5) w fun _ w =>
  mv t8 fun t4 =>
  lp [a0] w fun I1 μ1 => ∀ (x1 : Env) (w1 : World), I1 [x1 0] w1 →
  mv (x1 0) fun t9 =>
  o1 Tryd.prog (Builtin.len_ #[33] 3 #[t9]) w1 fun t10 w =>
  o1 Tryd.prog (bin .geq 3 (.tmp 10) (.const (.int .i64 64)) t10 (.int .i64 64)) w fun t11 w =>
  br t11 (fun _ =>
  mv (x1 0) fun t12 =>
  o1 Tryd.prog (Instr.sliceAt 33 t12 none (some (.int .i64 64)) none) w fun t13 w =>
  C Tryd.prog N.sha_words_mix #[t3, t13] w fun t14 w =>
  mv (x1 0) fun t15 =>
  o1 Tryd.prog (Instr.sliceAt 33 t15 (some (.int .i64 64)) none none) w fun t16 w =>
  mv t16 fun t0 =>
  I1 [t0] w ∧ μ1 [t0] w < μ1 [x1 0] w1) (fun _ =>
  o1 Tryd.prog (Instr.loadAt 181 t3) w fun t17 w =>
  mv (x1 0) fun t18 =>
  mv t4 fun t19 =>
  C Tryd.prog N.sha_words_end #[t17, t18, t19] w fun t20 w =>
  o0 Tryd.prog (Instr.storeAt 23 t2 t20) w fun _ w =>
  rc Tryd.prog 23 t2 w fun r0 =>
  k r0 w)
theorem C.sha_Sum {k : Value → World → Prop} {a0 : Value} {w : World} (h : F.sha_Sum k a0 w) : C Tryd.prog N.sha_Sum #[a0] w k :=
  den_calls (H := { moves := [], vars := [0, 4] }) (args := [a0]) mixed Tryd.func93 (by kernel_rfl) (by kernel_rfl) (by kernel_rfl) h

-- isthmus/wots.check
def F.wots_check (k : Value → World → Prop) (a0 a1 : Value) (w : World) : Prop :=
  mv .nilIface fun t4 =>
  mv a0 fun t6 =>
  o1 Tryd.prog (bin .lss 3 (.tmp 6) (.const (.int .i64 0)) t6 (.int .i64 0)) w fun t7 w =>
  mv t7 fun t8 =>
  gd t8 false (fun k1 => mv a0 fun v => k1 v w) w fun t9 w =>
  gd t8 false (fun k2 => o1 Tryd.prog (bin .geq 3 (.tmp 9) (.const (.int .i64 1024)) t9 (.int .i64 1024)) w k2) w fun t10 w =>
  pk t8 (.bool true) t10 fun t11 =>
  mv t11 fun t5 =>
  br t5 (fun _ =>
  C Tryd.prog N.wots_fault #[.string ⟨#[108, 101, 97, 102]⟩, .int .i64 1] w fun t12 w =>
  mv t12 fun t4_1 =>
  k t4_1 w) (fun _ =>
  mv a1 fun t14 =>
  C Tryd.prog N.wots_digest #[t14] w fun t15 w =>
  o1 Tryd.prog (Op.unary .not t15) w fun t16 w =>
  mv t16 fun t13 =>
  br t13 (fun _ =>
  C Tryd.prog N.wots_fault #[.string ⟨#[100, 105, 103, 101, 115, 116]⟩, .int .i64 1] w fun t17 w =>
  mv t17 fun t4_2 =>
  k t4_2 w) (fun _ =>
  mv .nilIface fun t4_3 =>
  k t4_3 w))
theorem C.wots_check {k : Value → World → Prop} {a0 a1 : Value} {w : World} (h : F.wots_check k a0 a1 w) : C Tryd.prog N.wots_check #[a0, a1] w k :=
  den_calls (H := { moves := [], vars := [4, 5, 13] }) (args := [a0, a1]) mixed Tryd.func94 (by kernel_rfl) (by kernel_rfl) (by kernel_rfl) h

-- isthmus/wots.Len
def F.wots_Len (k : Value → World → Prop) (a0 : Value) (w : World) : Prop :=
  mv (.int .i64 0) fun t2 =>
  mv a0 fun t3 =>
  C Tryd.prog N.wots_digest #[t3] w fun t4 w =>
  o1 Tryd.prog (Op.unary .not t4) w fun t5 w =>
  br t5 (fun _ =>
  mv (.int .i64 0) fun t2_1 =>
  k t2_1 w) (fun _ =>
  mv a0 fun t6 =>
  o1 Tryd.prog (bin .mul 3 (.const (.int .i64 2)) (.tmp 6) (.int .i64 2) t6) w fun t7 w =>
  o1 Tryd.prog (bin .add 3 (.tmp 7) (.const (.int .i64 3)) t7 (.int .i64 3)) w fun t8 w =>
  mv t8 fun t2_2 =>
  k t2_2 w)
theorem C.wots_Len {k : Value → World → Prop} {a0 : Value} {w : World} (h : F.wots_Len k a0 w) : C Tryd.prog N.wots_Len #[a0] w k :=
  den_calls (H := { moves := [], vars := [2] }) (args := [a0]) mixed Tryd.func95 (by kernel_rfl) (by kernel_rfl) (by kernel_rfl) h

-- isthmus/wots.Digits
def F.wots_Digits (k : Value → World → Prop) (a0 : Value) (w : World) : Prop :=
  mv (.slice none 0 0) fun t2 =>
  mv a0 fun t10 =>
  o1 Tryd.prog (Builtin.len_ #[33] 3 #[t10]) w fun t11 w =>
  C Tryd.prog N.wots_digest #[t11] w fun t12 w =>
  o1 Tryd.prog (Op.unary .not t12) w fun t13 w =>
  br t13 (fun _ =>
  mv (.slice none 0 0) fun t2_1 =>
  k t2_1 w) (fun _ =>
  mv a0 fun t14 =>
  o1 Tryd.prog (Builtin.len_ #[33] 3 #[t14]) w fun t15 w =>
  C Tryd.prog N.wots_Len #[t15] w fun t16 w =>
  o1 Tryd.prog (Instr.makeSlice 173 (.int .i64 0) t16) w fun t17 w =>
  mv t17 fun t3 =>
  mv (.int .i64 0) fun t4 =>
  mv a0 fun t18 =>
  o1 Tryd.prog (Builtin.len_ #[33] 3 #[t18]) w fun t19 w =>
  mv (.int .i64 0) fun t20 =>
  lp [t3, t4, undef, undef, t20, undef] w fun I1 μ1 => ∀ (x1 : Env) (w1 : World), I1 [x1 3, x1 4, x1 6, x1 8, x1 20, x1 31] w1 →
  o1 Tryd.prog (bin .lss 3 (.tmp 20) (.tmp 19) (x1 20) t19) w1 fun t21 w =>
  br t21 (fun _ =>
  o1 Tryd.prog (Instr.indexAt 33 t18 (x1 20)) w fun t22 w =>
  o1 Tryd.prog (Instr.loadAt 5 t22) w fun t23 w =>
  mv t23 fun t6 =>
  mv t6 fun t24 =>
  o1 Tryd.prog (bin .shr 5 (.tmp 24) (.const (.int .u64 4)) t24 (.int .u64 4)) w fun t25 w =>
  o1 Tryd.prog (convert 5 3 t25) w fun t26 w =>
  mv t6 fun t27 =>
  o1 Tryd.prog (bin .and 5 (.tmp 27) (.const (.int .u8 15)) t27 (.int .u8 15)) w fun t28 w =>
  o1 Tryd.prog (convert 5 3 t28) w fun t29 w =>
  o1 Tryd.prog (Instr.build 185 #[(0, t26), (1, t29)]) w fun t30 w =>
  mv (.int .i64 0) fun t31 =>
  lp [(x1 3), (x1 4), (x1 8), t31] w fun I2 μ2 => ∀ (x2 : Env) (w2 : World), I2 [x2 3, x2 4, x2 8, x2 31] w2 →
  o1 Tryd.prog (bin .lss 3 (.tmp 31) (.const (.int .i64 2)) (x2 31) (.int .i64 2)) w2 fun t32 w =>
  br t32 (fun _ =>
  o1 Tryd.prog (Instr.index 185 t30 (x2 31)) w fun t33 w =>
  mv t33 fun t8 =>
  mv (x2 3) fun t34 =>
  mv t8 fun t35 =>
  o1 Tryd.prog (Instr.buildSlice 173 1 #[(0, t35)]) w fun t36 w =>
  ob Tryd.prog (fun _ => Builtin.append_ #[173, 173] 173 #[t34, t36]) w fun t37 w =>
  mv t37 fun t3_1 =>
  mv (x2 4) fun t38 =>
  mv t8 fun t39 =>
  o1 Tryd.prog (bin .sub 3 (.const (.int .i64 15)) (.tmp 39) (.int .i64 15) t39) w fun t40 w =>
  o1 Tryd.prog (bin .add 3 (.tmp 38) (.tmp 40) t38 t40) w fun t41 w =>
  mv t41 fun t4_1 =>
  o1 Tryd.prog (bin .add 3 (.tmp 31) (.const (.int .i64 1)) (x2 31) (.int .i64 1)) w fun t42 w =>
  mv t42 fun t31_1 =>
  I2 [t3_1, t4_1, t8, t31_1] w ∧ μ2 [t3_1, t4_1, t8, t31_1] w < μ2 [x2 3, x2 4, x2 8, x2 31] w2) (fun _ =>
  o1 Tryd.prog (bin .add 3 (.tmp 20) (.const (.int .i64 1)) (x1 20) (.int .i64 1)) w fun t43 w =>
  mv t43 fun t20_1 =>
  I1 [(x2 3), (x2 4), t6, (x2 8), t20_1, (x2 31)] w ∧ μ1 [(x2 3), (x2 4), t6, (x2 8), t20_1, (x2 31)] w < μ1 [x1 3, x1 4, x1 6, x1 8, x1 20, x1 31] w1)) (fun _ =>
  mv (.int .i64 8) fun t9 =>
  lp [(x1 3), t9] w fun I3 μ3 => ∀ (x3 : Env) (w3 : World), I3 [x3 3, x3 9] w3 →
  mv (x3 9) fun t44 =>
  o1 Tryd.prog (bin .geq 3 (.tmp 44) (.const (.int .i64 0)) t44 (.int .i64 0)) w3 fun t45 w =>
  br t45 (fun _ =>
  mv (x3 3) fun t48 =>
  mv (x1 4) fun t49 =>
  mv (x3 9) fun t50 =>
  o1 Tryd.prog (convert 3 136 t50) w fun t51 w =>
  o1 Tryd.prog (bin .shr 3 (.tmp 49) (.tmp 51) t49 t51) w fun t52 w =>
  o1 Tryd.prog (bin .and 3 (.tmp 52) (.const (.int .i64 15)) t52 (.int .i64 15)) w fun t53 w =>
  o1 Tryd.prog (Instr.buildSlice 173 1 #[(0, t53)]) w fun t54 w =>
  ob Tryd.prog (fun _ => Builtin.append_ #[173, 173] 173 #[t48, t54]) w fun t55 w =>
  mv t55 fun t3_2 =>
  mv (x3 9) fun t46 =>
  o1 Tryd.prog (bin .sub 3 (.tmp 46) (.const (.int .i64 4)) t46 (.int .i64 4)) w fun t47 w =>
  mv t47 fun t9_1 =>
  I3 [t3_2, t9_1] w ∧ μ3 [t3_2, t9_1] w < μ3 [x3 3, x3 9] w3) (fun _ =>
  mv (x3 3) fun t56 =>
  mv t56 fun t2_2 =>
  k t2_2 w)))
theorem C.wots_Digits {k : Value → World → Prop} {a0 : Value} {w : World} (h : F.wots_Digits k a0 w) : C Tryd.prog N.wots_Digits #[a0] w k :=
  den_calls (H := { moves := [], vars := [2, 3, 4, 6, 8, 9, 20, 31] }) (args := [a0]) mixed Tryd.func96 (by kernel_rfl) (by kernel_rfl) (by kernel_rfl) h

-- isthmus/wots.Step
def F.wots_Step (k : Value → World → Prop) (a0 a1 a2 a3 a4 : Value) (w : World) : Prop :=
  o1 Tryd.prog (Instr.box 23 a0) w fun t5 w =>
  o1 Tryd.prog (Instr.alloc 23 true (.tuple #[])) w fun t10 w =>
  o1 Tryd.prog (Instr.alloc 186 true (.tuple #[])) w fun t11 w =>
  mv a3 fun t14 =>
  o1 Tryd.prog (Builtin.max_ #[3, 3] 3 #[t14, .int .i64 0]) w fun t15 w =>
  mv t15 fun t12 =>
  lp [t12, undef] w fun I1 μ1 => ∀ (x1 : Env) (w1 : World), I1 [x1 12, x1 13] w1 →
  mv (x1 12) fun t16 =>
  mv a4 fun t17 =>
  o1 Tryd.prog (Builtin.min_ #[3, 3] 3 #[t17, .int .i64 15]) w1 fun t18 w =>
  o1 Tryd.prog (bin .lss 3 (.tmp 16) (.tmp 18) t16 t18) w fun t19 w =>
  br t19 (fun _ =>
  o1 Tryd.prog (Instr.sliceAt 186 t11 none (some (.int .i64 0)) none) w fun t22 w =>
  o1 Tryd.prog (Instr.buildSlice 33 1 #[(0, .int .u8 3)]) w fun t23 w =>
  ob Tryd.prog (fun _ => Builtin.append_ #[33, 33] 33 #[t22, t23]) w fun t24 w =>
  mv a1 fun t25 =>
  C Tryd.prog N.wots_number #[t24, t25] w fun t26 w =>
  mv a2 fun t27 =>
  C Tryd.prog N.wots_number #[t26, t27] w fun t28 w =>
  mv (x1 12) fun t29 =>
  C Tryd.prog N.wots_number #[t28, t29] w fun t30 w =>
  mv t30 fun t13 =>
  mv t13 fun t31 =>
  o1 Tryd.prog (Instr.sliceAt 23 t5 none none none) w fun t32 w =>
  ob Tryd.prog (fun _ => Builtin.append_ #[33, 33] 33 #[t31, t32]) w fun t33 w =>
  C Tryd.prog N.sha_Sum #[t33] w fun t34 w =>
  o0 Tryd.prog (Instr.storeAt 23 t5 t34) w fun _ w =>
  mv (x1 12) fun t20 =>
  o1 Tryd.prog (bin .add 3 (.tmp 20) (.const (.int .i64 1)) t20 (.int .i64 1)) w fun t21 w =>
  mv t21 fun t12_1 =>
  I1 [t12_1, t13] w ∧ μ1 [t12_1, t13] w < μ1 [x1 12, x1 13] w1) (fun _ =>
  o1 Tryd.prog (Instr.loadAt 23 t5) w fun t35 w =>
  o0 Tryd.prog (Instr.storeAt 23 t10 t35) w fun _ w =>
  rc Tryd.prog 23 t10 w fun r0 =>
  k r0 w)
theorem C.wots_Step {k : Value → World → Prop} {a0 a1 a2 a3 a4 : Value} {w : World} (h : F.wots_Step k a0 a1 a2 a3 a4 w) : C Tryd.prog N.wots_Step #[a0, a1, a2, a3, a4] w k :=
  den_calls (H := { moves := [], vars := [12, 13] }) (args := [a0, a1, a2, a3, a4]) mixed Tryd.func97 (by kernel_rfl) (by kernel_rfl) (by kernel_rfl) h

-- isthmus/sha.Leaf
def F.sha_Leaf (k : Value → World → Prop) (a0 : Value) (w : World) : Prop :=
  o1 Tryd.prog (Instr.alloc 23 true (.tuple #[])) w fun t2 w =>
  o1 Tryd.prog (Instr.buildSlice 33 1 #[(0, .int .u8 0)]) w fun t3 w =>
  mv a0 fun t4 =>
  ob Tryd.prog (fun _ => Builtin.append_ #[33, 33] 33 #[t3, t4]) w fun t5 w =>
  C Tryd.prog N.sha_Sum #[t5] w fun t6 w =>
  o0 Tryd.prog (Instr.storeAt 23 t2 t6) w fun _ w =>
  rc Tryd.prog 23 t2 w fun r0 =>
  k r0 w
theorem C.sha_Leaf {k : Value → World → Prop} {a0 : Value} {w : World} (h : F.sha_Leaf k a0 w) : C Tryd.prog N.sha_Leaf #[a0] w k :=
  den_calls (H := { moves := [], vars := [] }) (args := [a0]) mixed Tryd.func98 (by kernel_rfl) (by kernel_rfl) (by kernel_rfl) h

-- isthmus/sha.turns
def F.sha_turns (k : Value → World → Prop) (a0 a1 : Value) (w : World) : Prop :=
  mv (.slice none 0 0) fun t4 =>
  mv (.slice none 0 0) fun t5 =>
  lp [a0, a1, t5, undef, undef] w fun I1 μ1 => ∀ (x1 : Env) (w1 : World), I1 [x1 0, x1 1, x1 5, x1 6, x1 7] w1 →
  mv (x1 1) fun t8 =>
  o1 Tryd.prog (bin .gtr 3 (.tmp 8) (.const (.int .i64 1)) t8 (.int .i64 1)) w1 fun t9 w =>
  br t9 (fun _ =>
  mv (x1 1) fun t10 =>
  C Tryd.prog N.sha_half #[t10] w fun t11 w =>
  mv t11 fun t6 =>
  mv (x1 0) fun t12 =>
  mv t6 fun t13 =>
  o1 Tryd.prog (bin .geq 3 (.tmp 12) (.tmp 13) t12 t13) w fun t14 w =>
  mv t14 fun t7 =>
  mv (x1 5) fun t15 =>
  mv t7 fun t16 =>
  o1 Tryd.prog (Instr.buildSlice 176 1 #[(0, t16)]) w fun t17 w =>
  ob Tryd.prog (fun _ => Builtin.append_ #[176, 176] 176 #[t15, t17]) w fun t18 w =>
  mv t18 fun t5_1 =>
  mv t7 fun t19 =>
  jn (fun x2 => [x2 0, x2 1]) (fun k1 =>
  br t19 (fun _ =>
  mv (x1 0) fun t20 =>
  mv t6 fun t21 =>
  o1 Tryd.prog (bin .sub 3 (.tmp 20) (.tmp 21) t20 t21) w fun t22 w =>
  mv (x1 1) fun t23 =>
  mv t6 fun t24 =>
  o1 Tryd.prog (bin .sub 3 (.tmp 23) (.tmp 24) t23 t24) w fun t25 w =>
  mv t22 fun t0 =>
  mv t25 fun t1 =>
  k1 [t0, t1] w) (fun _ =>
  mv t6 fun t26 =>
  mv t26 fun t1_1 =>
  k1 [(x1 0), t1_1] w)) fun x2 w =>
  I1 [(x2 0), (x2 1), t5_1, t6, t7] w ∧ μ1 [(x2 0), (x2 1), t5_1, t6, t7] w < μ1 [x1 0, x1 1, x1 5, x1 6, x1 7] w1) (fun _ =>
  mv (x1 5) fun t27 =>
  mv t27 fun t4_1 =>
  k t4_1 w)
theorem C.sha_turns {k : Value → World → Prop} {a0 a1 : Value} {w : World} (h : F.sha_turns k a0 a1 w) : C Tryd.prog N.sha_turns #[a0, a1] w k :=
  den_calls (H := { moves := [], vars := [0, 1, 4, 5, 6, 7] }) (args := [a0, a1]) mixed Tryd.func99 (by kernel_rfl) (by kernel_rfl) (by kernel_rfl) h

-- isthmus/sha.Node
def F.sha_Node (k : Value → World → Prop) (a0 a1 : Value) (w : World) : Prop :=
  o1 Tryd.prog (Instr.box 23 a0) w fun t2 w =>
  o1 Tryd.prog (Instr.box 23 a1) w fun t3 w =>
  o1 Tryd.prog (Instr.alloc 23 true (.tuple #[])) w fun t4 w =>
  dr w.drew fun S1 =>
  tk Tryd.prog S1 (Instr.sliceAt 23 t2 none none none) fun t6 =>
  tk Tryd.prog S1 (Instr.sliceAt 23 t3 none none none) fun t8 =>
  o1 Tryd.prog (Instr.buildSlice 33 1 #[(0, .int .u8 1)]) w.drew fun t5 w =>
  S1 w ∧
  ob Tryd.prog (fun _ => Builtin.append_ #[33, 33] 33 #[t5, t6]) w fun t7 w =>
  S1 w ∧
  ob Tryd.prog (fun _ => Builtin.append_ #[33, 33] 33 #[t7, t8]) w fun t9 w =>
  S1 w ∧
  C Tryd.prog N.sha_Sum #[t9] w fun t10 w =>
  S1 w ∧
  o0 Tryd.prog (Instr.storeAt 23 t4 t10) w fun _ w =>
  rc Tryd.prog 23 t4 w fun r0 =>
  k r0 w
theorem C.sha_Node {k : Value → World → Prop} {a0 a1 : Value} {w : World} (h : F.sha_Node k a0 a1 w) : C Tryd.prog N.sha_Node #[a0, a1] w k :=
  den_calls (H := { moves := [(1, (.take 1 (.take 3 (.force 0 (.force 2 (.force 4 (.force 5 (.last 6))))))))], vars := [] }) (args := [a0, a1]) mixed Tryd.func100 (by kernel_rfl) (by kernel_rfl) (by kernel_rfl) h

-- isthmus/sha.start
def F.sha_start (k : Value → World → Prop) (w : World) : Prop :=
  o1 Tryd.prog (Instr.alloc 181 true (.tuple #[])) w fun t0 w =>
  o1 Tryd.prog (Instr.build 181 #[(0, .int .u32 1779033703), (1, .int .u32 3144134277), (2, .int .u32 1013904242), (3, .int .u32 2773480762), (4, .int .u32 1359893119), (5, .int .u32 2600822924), (6, .int .u32 528734635), (7, .int .u32 1541459225)]) w fun t1 w =>
  o0 Tryd.prog (Instr.storeAt 181 t0 t1) w fun _ w =>
  rc Tryd.prog 181 t0 w fun r0 =>
  k r0 w
theorem C.sha_start {k : Value → World → Prop} {w : World} (h : F.sha_start k  w) : C Tryd.prog N.sha_start #[] w k :=
  den_calls (H := { moves := [], vars := [] }) (args := []) mixed Tryd.func101 (by kernel_rfl) (by kernel_rfl) (by kernel_rfl) h

-- (*isthmus/sha.words).mix
def F.sha_words_mix (k : Value → World → Prop) (a0 a1 : Value) (w : World) : Prop :=
  o1 Tryd.prog (Instr.alloc 188 true (.tuple #[])) w fun t4 w =>
  mv (.int .i64 0) fun t24 =>
  lp [undef, t24] w fun I1 μ1 => ∀ (x1 : Env) (w1 : World), I1 [x1 5, x1 24] w1 →
  o1 Tryd.prog (bin .lss 3 (.tmp 24) (.const (.int .i64 16)) (x1 24) (.int .i64 16)) w1 fun t25 w =>
  br t25 (fun _ =>
  mv (x1 24) fun t26 =>
  mv t26 fun t5 =>
  dr w.drew fun S1 =>
  mv t5 fun t27 =>
  mv a1 fun t28 =>
  mv t5 fun t29 =>
  tk Tryd.prog S1 (bin .mul 3 (.const (.int .i64 4)) (.tmp 29) (.int .i64 4) t29) fun t30 =>
  tk Tryd.prog S1 (Instr.indexAt 33 t28 t30) fun t31 =>
  tk Tryd.prog S1 (Instr.loadAt 5 t31) fun t32 =>
  tk Tryd.prog S1 (convert 5 179 t32) fun t33 =>
  tk Tryd.prog S1 (bin .shl 179 (.tmp 33) (.const (.int .u64 24)) t33 (.int .u64 24)) fun t34 =>
  mv a1 fun t35 =>
  mv t5 fun t36 =>
  tk Tryd.prog S1 (bin .mul 3 (.const (.int .i64 4)) (.tmp 36) (.int .i64 4) t36) fun t37 =>
  tk Tryd.prog S1 (bin .add 3 (.tmp 37) (.const (.int .i64 1)) t37 (.int .i64 1)) fun t38 =>
  tk Tryd.prog S1 (Instr.indexAt 33 t35 t38) fun t39 =>
  tk Tryd.prog S1 (Instr.loadAt 5 t39) fun t40 =>
  tk Tryd.prog S1 (convert 5 179 t40) fun t41 =>
  tk Tryd.prog S1 (bin .shl 179 (.tmp 41) (.const (.int .u64 16)) t41 (.int .u64 16)) fun t42 =>
  tk Tryd.prog S1 (bin .or 179 (.tmp 34) (.tmp 42) t34 t42) fun t43 =>
  mv a1 fun t44 =>
  mv t5 fun t45 =>
  tk Tryd.prog S1 (bin .mul 3 (.const (.int .i64 4)) (.tmp 45) (.int .i64 4) t45) fun t46 =>
  tk Tryd.prog S1 (bin .add 3 (.tmp 46) (.const (.int .i64 2)) t46 (.int .i64 2)) fun t47 =>
  tk Tryd.prog S1 (Instr.indexAt 33 t44 t47) fun t48 =>
  tk Tryd.prog S1 (Instr.loadAt 5 t48) fun t49 =>
  tk Tryd.prog S1 (convert 5 179 t49) fun t50 =>
  tk Tryd.prog S1 (bin .shl 179 (.tmp 50) (.const (.int .u64 8)) t50 (.int .u64 8)) fun t51 =>
  tk Tryd.prog S1 (bin .or 179 (.tmp 43) (.tmp 51) t43 t51) fun t52 =>
  mv a1 fun t53 =>
  mv t5 fun t54 =>
  tk Tryd.prog S1 (bin .mul 3 (.const (.int .i64 4)) (.tmp 54) (.int .i64 4) t54) fun t55 =>
  tk Tryd.prog S1 (bin .add 3 (.tmp 55) (.const (.int .i64 3)) t55 (.int .i64 3)) fun t56 =>
  tk Tryd.prog S1 (Instr.indexAt 33 t53 t56) fun t57 =>
  tk Tryd.prog S1 (Instr.loadAt 5 t57) fun t58 =>
  tk Tryd.prog S1 (convert 5 179 t58) fun t59 =>
  tk Tryd.prog S1 (bin .or 179 (.tmp 52) (.tmp 59) t52 t59) fun t60 =>
  tk Tryd.prog S1 (Instr.indexAt 188 t4 t27) fun t61 =>
  o0 Tryd.prog (Instr.storeAt 179 t61 t60) w.drew fun _ w =>
  o1 Tryd.prog (bin .add 3 (.tmp 24) (.const (.int .i64 1)) (x1 24) (.int .i64 1)) w fun t62 w =>
  mv t62 fun t24_1 =>
  I1 [t5, t24_1] w ∧ μ1 [t5, t24_1] w < μ1 [x1 5, x1 24] w1) (fun _ =>
  mv (.int .i64 16) fun t6 =>
  lp [t6, undef, undef, undef, undef] w fun I2 μ2 => ∀ (x2 : Env) (w2 : World), I2 [x2 6, x2 7, x2 8, x2 9, x2 10] w2 →
  mv (x2 6) fun t63 =>
  o1 Tryd.prog (bin .lss 3 (.tmp 63) (.const (.int .i64 64)) t63 (.int .i64 64)) w2 fun t64 w =>
  br t64 (fun _ =>
  mv (x2 6) fun t67 =>
  tk Tryd.prog (fun w' => w' = w.drew) (bin .sub 3 (.tmp 67) (.const (.int .i64 15)) t67 (.int .i64 15)) fun t68 =>
  tk Tryd.prog (fun w' => w' = w.drew) (Instr.indexAt 188 t4 t68) fun t69 =>
  tk Tryd.prog (fun w' => w' = w.drew) (Instr.loadAt 179 t69) fun t70 =>
  mv (x2 6) fun t71 =>
  tk Tryd.prog (fun w' => w' = w.drew) (bin .sub 3 (.tmp 71) (.const (.int .i64 2)) t71 (.int .i64 2)) fun t72 =>
  tk Tryd.prog (fun w' => w' = w.drew) (Instr.indexAt 188 t4 t72) fun t73 =>
  tk Tryd.prog (fun w' => w' = w.drew) (Instr.loadAt 179 t73) fun t74 =>
  mv t70 fun t7 =>
  mv t74 fun t8 =>
  mv t7 fun t75 =>
  C Tryd.prog N.math_bits_RotateLeft32 #[t75, .int .i64 (-7)] w.drew fun t76 w =>
  mv t7 fun t77 =>
  C Tryd.prog N.math_bits_RotateLeft32 #[t77, .int .i64 (-18)] w fun t78 w =>
  o1 Tryd.prog (bin .xor 179 (.tmp 76) (.tmp 78) t76 t78) w fun t79 w =>
  mv t7 fun t80 =>
  o1 Tryd.prog (bin .shr 179 (.tmp 80) (.const (.int .u64 3)) t80 (.int .u64 3)) w fun t81 w =>
  o1 Tryd.prog (bin .xor 179 (.tmp 79) (.tmp 81) t79 t81) w fun t82 w =>
  mv t82 fun t9 =>
  mv t8 fun t83 =>
  C Tryd.prog N.math_bits_RotateLeft32 #[t83, .int .i64 (-17)] w fun t84 w =>
  mv t8 fun t85 =>
  C Tryd.prog N.math_bits_RotateLeft32 #[t85, .int .i64 (-19)] w fun t86 w =>
  o1 Tryd.prog (bin .xor 179 (.tmp 84) (.tmp 86) t84 t86) w fun t87 w =>
  mv t8 fun t88 =>
  o1 Tryd.prog (bin .shr 179 (.tmp 88) (.const (.int .u64 10)) t88 (.int .u64 10)) w fun t89 w =>
  o1 Tryd.prog (bin .xor 179 (.tmp 87) (.tmp 89) t87 t89) w fun t90 w =>
  mv t90 fun t10 =>
  dr w.drew fun S2 =>
  mv (x2 6) fun t91 =>
  mv (x2 6) fun t92 =>
  tk Tryd.prog S2 (bin .sub 3 (.tmp 92) (.const (.int .i64 16)) t92 (.int .i64 16)) fun t93 =>
  tk Tryd.prog S2 (Instr.indexAt 188 t4 t93) fun t94 =>
  tk Tryd.prog S2 (Instr.loadAt 179 t94) fun t95 =>
  mv t9 fun t96 =>
  tk Tryd.prog S2 (bin .add 179 (.tmp 95) (.tmp 96) t95 t96) fun t97 =>
  mv (x2 6) fun t98 =>
  tk Tryd.prog S2 (bin .sub 3 (.tmp 98) (.const (.int .i64 7)) t98 (.int .i64 7)) fun t99 =>
  tk Tryd.prog S2 (Instr.indexAt 188 t4 t99) fun t100 =>
  tk Tryd.prog S2 (Instr.loadAt 179 t100) fun t101 =>
  tk Tryd.prog S2 (bin .add 179 (.tmp 97) (.tmp 101) t97 t101) fun t102 =>
  mv t10 fun t103 =>
  tk Tryd.prog S2 (bin .add 179 (.tmp 102) (.tmp 103) t102 t103) fun t104 =>
  tk Tryd.prog S2 (Instr.indexAt 188 t4 t91) fun t105 =>
  o0 Tryd.prog (Instr.storeAt 179 t105 t104) w.drew fun _ w =>
  mv (x2 6) fun t65 =>
  o1 Tryd.prog (bin .add 3 (.tmp 65) (.const (.int .i64 1)) t65 (.int .i64 1)) w fun t66 w =>
  mv t66 fun t6_1 =>
  I2 [t6_1, t7, t8, t9, t10] w ∧ μ2 [t6_1, t7, t8, t9, t10] w < μ2 [x2 6, x2 7, x2 8, x2 9, x2 10] w2) (fun _ =>
  mv a0 fun t106 =>
  nilOk t106 = true ∧ mv t106 fun t107 =>
  tk Tryd.prog (fun w' => w' = w.drew) (Instr.indexAt 181 t107 (.int .i64 0)) fun t108 =>
  tk Tryd.prog (fun w' => w' = w.drew) (Instr.loadAt 179 t108) fun t109 =>
  mv a0 fun t110 =>
  nilOk t110 = true ∧ mv t110 fun t111 =>
  tk Tryd.prog (fun w' => w' = w.drew) (Instr.indexAt 181 t111 (.int .i64 1)) fun t112 =>
  tk Tryd.prog (fun w' => w' = w.drew) (Instr.loadAt 179 t112) fun t113 =>
  mv a0 fun t114 =>
  nilOk t114 = true ∧ mv t114 fun t115 =>
  tk Tryd.prog (fun w' => w' = w.drew) (Instr.indexAt 181 t115 (.int .i64 2)) fun t116 =>
  tk Tryd.prog (fun w' => w' = w.drew) (Instr.loadAt 179 t116) fun t117 =>
  mv a0 fun t118 =>
  nilOk t118 = true ∧ mv t118 fun t119 =>
  tk Tryd.prog (fun w' => w' = w.drew) (Instr.indexAt 181 t119 (.int .i64 3)) fun t120 =>
  tk Tryd.prog (fun w' => w' = w.drew) (Instr.loadAt 179 t120) fun t121 =>
  mv a0 fun t122 =>
  nilOk t122 = true ∧ mv t122 fun t123 =>
  tk Tryd.prog (fun w' => w' = w.drew) (Instr.indexAt 181 t123 (.int .i64 4)) fun t124 =>
  tk Tryd.prog (fun w' => w' = w.drew) (Instr.loadAt 179 t124) fun t125 =>
  mv a0 fun t126 =>
  nilOk t126 = true ∧ mv t126 fun t127 =>
  tk Tryd.prog (fun w' => w' = w.drew) (Instr.indexAt 181 t127 (.int .i64 5)) fun t128 =>
  tk Tryd.prog (fun w' => w' = w.drew) (Instr.loadAt 179 t128) fun t129 =>
  mv a0 fun t130 =>
  nilOk t130 = true ∧ mv t130 fun t131 =>
  tk Tryd.prog (fun w' => w' = w.drew) (Instr.indexAt 181 t131 (.int .i64 6)) fun t132 =>
  tk Tryd.prog (fun w' => w' = w.drew) (Instr.loadAt 179 t132) fun t133 =>
  mv a0 fun t134 =>
  nilOk t134 = true ∧ mv t134 fun t135 =>
  tk Tryd.prog (fun w' => w' = w.drew) (Instr.indexAt 181 t135 (.int .i64 7)) fun t136 =>
  tk Tryd.prog (fun w' => w' = w.drew) (Instr.loadAt 179 t136) fun t137 =>
  mv t109 fun t11 =>
  mv t113 fun t12 =>
  mv t117 fun t13 =>
  mv t121 fun t14 =>
  mv t125 fun t15 =>
  mv t129 fun t16 =>
  mv t133 fun t17 =>
  mv t137 fun t18 =>
  mv (.int .i64 0) fun t138 =>
  lp [t11, t12, t13, t14, t15, t16, t17, t18, undef, undef, undef, t138] w.drew fun I3 μ3 => ∀ (x3 : Env) (w3 : World), I3 [x3 11, x3 12, x3 13, x3 14, x3 15, x3 16, x3 17, x3 18, x3 19, x3 20, x3 21, x3 138] w3 →
  o1 Tryd.prog (bin .lss 3 (.tmp 138) (.const (.int .i64 64)) (x3 138) (.int .i64 64)) w3 fun t139 w =>
  br t139 (fun _ =>
  mv (x3 138) fun t140 =>
  mv t140 fun t19 =>
  dr w.drew fun S3 =>
  mv (x3 18) fun t141 =>
  mv (x3 15) fun t142 =>
  mv (x3 15) fun t144 =>
  mv (x3 15) fun t147 =>
  mv (x3 15) fun t151 =>
  mv (x3 16) fun t152 =>
  tk Tryd.prog S3 (bin .and 179 (.tmp 151) (.tmp 152) t151 t152) fun t153 =>
  mv (x3 15) fun t154 =>
  tk Tryd.prog S3 (Op.unary .xor t154) fun t155 =>
  mv (x3 17) fun t156 =>
  tk Tryd.prog S3 (bin .and 179 (.tmp 155) (.tmp 156) t155 t156) fun t157 =>
  tk Tryd.prog S3 (bin .xor 179 (.tmp 153) (.tmp 157) t153 t157) fun t158 =>
  mv t19 fun t160 =>
  tk Tryd.prog S3 (Instr.indexAt 188 (.pointer (some ⟨1, 0, none⟩)) t160) fun t161 =>
  tk Tryd.prog S3 (Instr.loadAt 179 t161) fun t162 =>
  mv t19 fun t164 =>
  tk Tryd.prog S3 (Instr.indexAt 188 t4 t164) fun t165 =>
  tk Tryd.prog S3 (Instr.loadAt 179 t165) fun t166 =>
  C Tryd.prog N.math_bits_RotateLeft32 #[t142, .int .i64 (-6)] w.drew fun t143 w =>
  S3 w ∧
  C Tryd.prog N.math_bits_RotateLeft32 #[t144, .int .i64 (-11)] w fun t145 w =>
  S3 w ∧
  tk Tryd.prog S3 (bin .xor 179 (.tmp 143) (.tmp 145) t143 t145) fun t146 =>
  C Tryd.prog N.math_bits_RotateLeft32 #[t147, .int .i64 (-25)] w fun t148 w =>
  S3 w ∧
  tk Tryd.prog S3 (bin .xor 179 (.tmp 146) (.tmp 148) t146 t148) fun t149 =>
  tk Tryd.prog S3 (bin .add 179 (.tmp 141) (.tmp 149) t141 t149) fun t150 =>
  tk Tryd.prog S3 (bin .add 179 (.tmp 150) (.tmp 158) t150 t158) fun t159 =>
  tk Tryd.prog S3 (bin .add 179 (.tmp 159) (.tmp 162) t159 t162) fun t163 =>
  tk Tryd.prog S3 (bin .add 179 (.tmp 163) (.tmp 166) t163 t166) fun t167 =>
  mv t167 fun t20 =>
  mv (x3 11) fun t168 =>
  C Tryd.prog N.math_bits_RotateLeft32 #[t168, .int .i64 (-2)] w fun t169 w =>
  mv (x3 11) fun t170 =>
  C Tryd.prog N.math_bits_RotateLeft32 #[t170, .int .i64 (-13)] w fun t171 w =>
  o1 Tryd.prog (bin .xor 179 (.tmp 169) (.tmp 171) t169 t171) w fun t172 w =>
  mv (x3 11) fun t173 =>
  C Tryd.prog N.math_bits_RotateLeft32 #[t173, .int .i64 (-22)] w fun t174 w =>
  o1 Tryd.prog (bin .xor 179 (.tmp 172) (.tmp 174) t172 t174) w fun t175 w =>
  mv (x3 11) fun t176 =>
  mv (x3 12) fun t177 =>
  o1 Tryd.prog (bin .and 179 (.tmp 176) (.tmp 177) t176 t177) w fun t178 w =>
  mv (x3 11) fun t179 =>
  mv (x3 13) fun t180 =>
  o1 Tryd.prog (bin .and 179 (.tmp 179) (.tmp 180) t179 t180) w fun t181 w =>
  o1 Tryd.prog (bin .xor 179 (.tmp 178) (.tmp 181) t178 t181) w fun t182 w =>
  mv (x3 12) fun t183 =>
  mv (x3 13) fun t184 =>
  o1 Tryd.prog (bin .and 179 (.tmp 183) (.tmp 184) t183 t184) w fun t185 w =>
  o1 Tryd.prog (bin .xor 179 (.tmp 182) (.tmp 185) t182 t185) w fun t186 w =>
  o1 Tryd.prog (bin .add 179 (.tmp 175) (.tmp 186) t175 t186) w fun t187 w =>
  mv t187 fun t21 =>
  mv (x3 17) fun t188 =>
  mv (x3 16) fun t189 =>
  mv (x3 15) fun t190 =>
  mv (x3 14) fun t191 =>
  mv t20 fun t192 =>
  o1 Tryd.prog (bin .add 179 (.tmp 191) (.tmp 192) t191 t192) w fun t193 w =>
  mv (x3 13) fun t194 =>
  mv (x3 12) fun t195 =>
  mv (x3 11) fun t196 =>
  mv t20 fun t197 =>
  mv t21 fun t198 =>
  o1 Tryd.prog (bin .add 179 (.tmp 197) (.tmp 198) t197 t198) w fun t199 w =>
  mv t188 fun t18_1 =>
  mv t189 fun t17_1 =>
  mv t190 fun t16_1 =>
  mv t193 fun t15_1 =>
  mv t194 fun t14_1 =>
  mv t195 fun t13_1 =>
  mv t196 fun t12_1 =>
  mv t199 fun t11_1 =>
  o1 Tryd.prog (bin .add 3 (.tmp 138) (.const (.int .i64 1)) (x3 138) (.int .i64 1)) w fun t200 w =>
  mv t200 fun t138_1 =>
  I3 [t11_1, t12_1, t13_1, t14_1, t15_1, t16_1, t17_1, t18_1, t19, t20, t21, t138_1] w ∧ μ3 [t11_1, t12_1, t13_1, t14_1, t15_1, t16_1, t17_1, t18_1, t19, t20, t21, t138_1] w < μ3 [x3 11, x3 12, x3 13, x3 14, x3 15, x3 16, x3 17, x3 18, x3 19, x3 20, x3 21, x3 138] w3) (fun _ =>
  mv (x3 11) fun t201 =>
  mv (x3 12) fun t202 =>
  mv (x3 13) fun t203 =>
  mv (x3 14) fun t204 =>
  mv (x3 15) fun t205 =>
  mv (x3 16) fun t206 =>
  mv (x3 17) fun t207 =>
  mv (x3 18) fun t208 =>
  o1 Tryd.prog (Instr.build 180 #[(0, t201), (1, t202), (2, t203), (3, t204), (4, t205), (5, t206), (6, t207), (7, t208)]) w fun t209 w =>
  mv (.int .i64 0) fun t210 =>
  lp [undef, undef, t210] w fun I4 μ4 => ∀ (x4 : Env) (w4 : World), I4 [x4 22, x4 23, x4 210] w4 →
  o1 Tryd.prog (bin .lss 3 (.tmp 210) (.const (.int .i64 8)) (x4 210) (.int .i64 8)) w4 fun t211 w =>
  br t211 (fun _ =>
  mv (x4 210) fun t212 =>
  o1 Tryd.prog (Instr.index 180 t209 (x4 210)) w fun t213 w =>
  mv t212 fun t22 =>
  mv t213 fun t23 =>
  dr w.drew fun S4 =>
  mv a0 fun t214 =>
  mv t22 fun t215 =>
  nilOk t214 = true ∧ mv t214 fun t216 =>
  tk Tryd.prog S4 (Instr.indexAt 181 t216 t215) fun t217 =>
  tk Tryd.prog S4 (Instr.loadAt 179 t217) fun t218 =>
  mv t23 fun t219 =>
  tk Tryd.prog S4 (bin .add 179 (.tmp 218) (.tmp 219) t218 t219) fun t220 =>
  nilOk t214 = true ∧ mv t214 fun t221 =>
  tk Tryd.prog S4 (Instr.indexAt 181 t221 t215) fun t222 =>
  o0 Tryd.prog (Instr.storeAt 179 t222 t220) w.drew fun _ w =>
  o1 Tryd.prog (bin .add 3 (.tmp 210) (.const (.int .i64 1)) (x4 210) (.int .i64 1)) w fun t223 w =>
  mv t223 fun t210_1 =>
  I4 [t22, t23, t210_1] w ∧ μ4 [t22, t23, t210_1] w < μ4 [x4 22, x4 23, x4 210] w4) (fun _ =>
  k (.tuple #[]) w))))
theorem C.sha_words_mix {k : Value → World → Prop} {a0 a1 : Value} {w : World} (h : F.sha_words_mix k a0 a1 w) : C Tryd.prog N.sha_words_mix #[a0, a1] w k :=
  den_calls (H := { moves := [(4, (.take 0 (.take 1 (.take 2 (.take 3 (.take 4 (.take 5 (.take 6 (.take 7 (.take 8 (.take 9 (.take 10 (.take 11 (.take 12 (.take 13 (.take 14 (.take 15 (.take 16 (.take 17 (.take 18 (.take 19 (.take 20 (.take 21 (.take 22 (.take 23 (.take 24 (.take 25 (.take 26 (.take 27 (.take 28 (.take 29 (.take 30 (.take 31 (.take 32 (.take 33 (.take 34 (.last 35))))))))))))))))))))))))))))))))))))), (9, (.take 0 (.take 1 (.take 2 (.take 3 (.take 4 (.take 5 (.take 6 (.take 7 (.take 8 (.take 9 .fin))))))))))), (12, (.take 0 (.take 1 (.take 2 (.take 3 (.take 4 (.take 5 (.take 6 (.take 7 (.take 8 (.take 9 (.take 10 (.take 11 (.take 12 (.take 13 (.take 14 (.last 15))))))))))))))))), (13, (.take 0 (.take 1 (.take 2 (.take 3 (.take 4 (.take 5 (.take 6 (.take 7 (.take 8 (.take 9 (.take 10 (.take 11 (.take 12 (.take 13 (.take 14 (.take 15 (.take 16 (.take 17 (.take 18 (.take 19 (.take 20 (.take 21 (.take 22 (.take 23 (.take 24 (.take 25 (.take 26 (.take 27 (.take 28 (.take 29 (.take 30 (.take 31 (.take 32 (.take 33 (.take 34 (.take 35 (.take 36 (.take 37 (.take 38 (.take 39 .fin))))))))))))))))))))))))))))))))))))))))), (17, (.take 0 (.take 1 (.take 3 (.take 6 (.take 10 (.take 11 (.take 12 (.take 13 (.take 14 (.take 15 (.take 16 (.take 17 (.take 19 (.take 20 (.take 21 (.take 23 (.take 24 (.take 25 (.force 2 (.force 4 (.take 5 (.force 7 (.take 8 (.take 9 (.take 18 (.take 22 (.take 26 (.take 27 .fin))))))))))))))))))))))))))))), (24, (.take 0 (.take 1 (.take 2 (.take 3 (.take 4 (.take 5 (.take 6 (.take 7 (.take 8 (.last 9)))))))))))], vars := [5, 6, 7, 8, 9, 10, 11, 12, 13, 14, 15, 16, 17, 18, 19, 20, 21, 22, 23, 24, 138, 210] }) (args := [a0, a1]) mixed Tryd.func102 (by kernel_rfl) (by kernel_rfl) (by kernel_rfl) h

-- (isthmus/sha.words).end
def F.sha_words_end (k : Value → World → Prop) (a0 a1 a2 : Value) (w : World) : Prop :=
  o1 Tryd.prog (Instr.box 181 a0) w fun t3 w =>
  o1 Tryd.prog (Instr.alloc 23 true (.tuple #[])) w fun t6 w =>
  o1 Tryd.prog (Instr.alloc 190 true (.tuple #[])) w fun t7 w =>
  o1 Tryd.prog (Instr.sliceAt 190 t7 none none none) w fun t16 w =>
  mv a1 fun t17 =>
  ob Tryd.prog (fun _ => Builtin.copy_ #[33, 33] 3 #[t16, t17]) w fun t18 w =>
  mv t18 fun t8 =>
  mv t8 fun t19 =>
  o1 Tryd.prog (Instr.indexAt 190 t7 t19) w fun t20 w =>
  o0 Tryd.prog (Instr.storeAt 5 t20 (.int .u8 128)) w fun _ w =>
  mv (.int .i64 64) fun t9 =>
  mv t8 fun t21 =>
  o1 Tryd.prog (bin .add 3 (.tmp 21) (.const (.int .i64 9)) t21 (.int .i64 9)) w fun t22 w =>
  o1 Tryd.prog (bin .gtr 3 (.tmp 22) (.const (.int .i64 64)) t22 (.int .i64 64)) w fun t23 w =>
  jn (fun x1 => [x1 9]) (fun k1 =>
  br t23 (fun _ =>
  mv (.int .i64 128) fun t9_1 =>
  k1 [t9_1] w) (fun _ =>
  k1 [t9] w)) fun x1 w =>
  mv (.int .i64 0) fun t24 =>
  lp [undef, t24] w fun I2 μ2 => ∀ (x2 : Env) (w1 : World), I2 [x2 10, x2 24] w1 →
  o1 Tryd.prog (bin .lss 3 (.tmp 24) (.const (.int .i64 8)) (x2 24) (.int .i64 8)) w1 fun t25 w =>
  br t25 (fun _ =>
  mv (x2 24) fun t26 =>
  mv t26 fun t10 =>
  mv (x1 9) fun t27 =>
  o1 Tryd.prog (bin .sub 3 (.tmp 27) (.const (.int .i64 1)) t27 (.int .i64 1)) w fun t28 w =>
  mv t10 fun t29 =>
  o1 Tryd.prog (bin .sub 3 (.tmp 28) (.tmp 29) t28 t29) w fun t30 w =>
  mv a2 fun t31 =>
  o1 Tryd.prog (bin .mul 107 (.tmp 31) (.const (.int .u64 8)) t31 (.int .u64 8)) w fun t32 w =>
  mv t10 fun t33 =>
  o1 Tryd.prog (bin .mul 3 (.const (.int .i64 8)) (.tmp 33) (.int .i64 8) t33) w fun t34 w =>
  o1 Tryd.prog (convert 3 136 t34) w fun t35 w =>
  o1 Tryd.prog (bin .shr 107 (.tmp 32) (.tmp 35) t32 t35) w fun t36 w =>
  o1 Tryd.prog (convert 107 5 t36) w fun t37 w =>
  o1 Tryd.prog (Instr.indexAt 190 t7 t30) w fun t38 w =>
  o0 Tryd.prog (Instr.storeAt 5 t38 t37) w fun _ w =>
  o1 Tryd.prog (bin .add 3 (.tmp 24) (.const (.int .i64 1)) (x2 24) (.int .i64 1)) w fun t39 w =>
  mv t39 fun t24_1 =>
  I2 [t10, t24_1] w ∧ μ2 [t10, t24_1] w < μ2 [x2 10, x2 24] w1) (fun _ =>
  mv (.int .i64 0) fun t11 =>
  lp [t11] w fun I3 μ3 => ∀ (x3 : Env) (w2 : World), I3 [x3 11] w2 →
  mv (x3 11) fun t40 =>
  mv (x1 9) fun t41 =>
  o1 Tryd.prog (bin .lss 3 (.tmp 40) (.tmp 41) t40 t41) w2 fun t42 w =>
  br t42 (fun _ =>
  mv (x3 11) fun t45 =>
  mv (x3 11) fun t46 =>
  o1 Tryd.prog (bin .add 3 (.tmp 46) (.const (.int .i64 64)) t46 (.int .i64 64)) w fun t47 w =>
  o1 Tryd.prog (Instr.sliceAt 190 t7 (some t45) (some t47) none) w fun t48 w =>
  C Tryd.prog N.sha_words_mix #[t3, t48] w fun t49 w =>
  mv (x3 11) fun t43 =>
  o1 Tryd.prog (bin .add 3 (.tmp 43) (.const (.int .i64 64)) t43 (.int .i64 64)) w fun t44 w =>
  mv t44 fun t11_1 =>
  I3 [t11_1] w ∧ μ3 [t11_1] w < μ3 [x3 11] w2) (fun _ =>
  o1 Tryd.prog (Instr.alloc 23 true (.tuple #[])) w fun t12 w =>
  o1 Tryd.prog (Instr.loadAt 181 t3) w fun t50 w =>
  mv (.int .i64 0) fun t51 =>
  lp [undef, undef, undef, t51, undef] w fun I4 μ4 => ∀ (x4 : Env) (w3 : World), I4 [x4 13, x4 14, x4 15, x4 51, x4 55] w3 →
  o1 Tryd.prog (bin .lss 3 (.tmp 51) (.const (.int .i64 8)) (x4 51) (.int .i64 8)) w3 fun t52 w =>
  br t52 (fun _ =>
  mv (x4 51) fun t53 =>
  o1 Tryd.prog (Instr.index 181 t50 (x4 51)) w fun t54 w =>
  mv t53 fun t13 =>
  mv t54 fun t14 =>
  mv (.int .i64 0) fun t55 =>
  lp [(x4 15), t55] w fun I5 μ5 => ∀ (x5 : Env) (w4 : World), I5 [x5 15, x5 55] w4 →
  o1 Tryd.prog (bin .lss 3 (.tmp 55) (.const (.int .i64 4)) (x5 55) (.int .i64 4)) w4 fun t56 w =>
  br t56 (fun _ =>
  mv (x5 55) fun t57 =>
  mv t57 fun t15 =>
  mv t13 fun t58 =>
  o1 Tryd.prog (bin .mul 3 (.const (.int .i64 4)) (.tmp 58) (.int .i64 4) t58) w fun t59 w =>
  mv t15 fun t60 =>
  o1 Tryd.prog (bin .add 3 (.tmp 59) (.tmp 60) t59 t60) w fun t61 w =>
  mv t14 fun t62 =>
  mv t15 fun t63 =>
  o1 Tryd.prog (bin .mul 3 (.const (.int .i64 8)) (.tmp 63) (.int .i64 8) t63) w fun t64 w =>
  o1 Tryd.prog (bin .sub 3 (.const (.int .i64 24)) (.tmp 64) (.int .i64 24) t64) w fun t65 w =>
  o1 Tryd.prog (convert 3 136 t65) w fun t66 w =>
  o1 Tryd.prog (bin .shr 179 (.tmp 62) (.tmp 66) t62 t66) w fun t67 w =>
  o1 Tryd.prog (convert 179 5 t67) w fun t68 w =>
  o1 Tryd.prog (Instr.indexAt 23 t12 t61) w fun t69 w =>
  o0 Tryd.prog (Instr.storeAt 5 t69 t68) w fun _ w =>
  o1 Tryd.prog (bin .add 3 (.tmp 55) (.const (.int .i64 1)) (x5 55) (.int .i64 1)) w fun t70 w =>
  mv t70 fun t55_1 =>
  I5 [t15, t55_1] w ∧ μ5 [t15, t55_1] w < μ5 [x5 15, x5 55] w4) (fun _ =>
  o1 Tryd.prog (bin .add 3 (.tmp 51) (.const (.int .i64 1)) (x4 51) (.int .i64 1)) w fun t71 w =>
  mv t71 fun t51_1 =>
  I4 [t13, t14, (x5 15), t51_1, (x5 55)] w ∧ μ4 [t13, t14, (x5 15), t51_1, (x5 55)] w < μ4 [x4 13, x4 14, x4 15, x4 51, x4 55] w3)) (fun _ =>
  o1 Tryd.prog (Instr.loadAt 23 t12) w fun t72 w =>
  o0 Tryd.prog (Instr.storeAt 23 t6 t72) w fun _ w =>
  rc Tryd.prog 23 t6 w fun r0 =>
  k r0 w)))
theorem C.sha_words_end {k : Value → World → Prop} {a0 a1 a2 : Value} {w : World} (h : F.sha_words_end k a0 a1 a2 w) : C Tryd.prog N.sha_words_end #[a0, a1, a2] w k :=
  den_calls (H := { moves := [], vars := [8, 9, 10, 11, 13, 14, 15, 24, 51, 55] }) (args := [a0, a1, a2]) mixed Tryd.func103 (by kernel_rfl) (by kernel_rfl) (by kernel_rfl) h

-- isthmus/wots.number
def F.wots_number (k : Value → World → Prop) (a0 a1 : Value) (w : World) : Prop :=
  mv (.slice none 0 0) fun t4 =>
  mv a1 fun t6 =>
  o1 Tryd.prog (convert 3 107 t6) w fun t7 w =>
  mv t7 fun t5 =>
  lp [a0, t5] w fun I1 μ1 => ∀ (x1 : Env) (w1 : World), I1 [x1 0, x1 5] w1 →
  mv (x1 5) fun t8 =>
  o1 Tryd.prog (bin .geq 107 (.tmp 8) (.const (.int .u64 128)) t8 (.int .u64 128)) w1 fun t9 w =>
  br t9 (fun _ =>
  mv (x1 0) fun t12 =>
  mv (x1 5) fun t13 =>
  o1 Tryd.prog (convert 107 5 t13) w fun t14 w =>
  o1 Tryd.prog (bin .or 5 (.tmp 14) (.const (.int .u8 128)) t14 (.int .u8 128)) w fun t15 w =>
  o1 Tryd.prog (Instr.buildSlice 33 1 #[(0, t15)]) w fun t16 w =>
  ob Tryd.prog (fun _ => Builtin.append_ #[33, 33] 33 #[t12, t16]) w fun t17 w =>
  mv t17 fun t0 =>
  mv (x1 5) fun t10 =>
  o1 Tryd.prog (bin .shr 107 (.tmp 10) (.const (.int .u64 7)) t10 (.int .u64 7)) w fun t11 w =>
  mv t11 fun t5_1 =>
  I1 [t0, t5_1] w ∧ μ1 [t0, t5_1] w < μ1 [x1 0, x1 5] w1) (fun _ =>
  mv (x1 0) fun t18 =>
  mv (x1 5) fun t19 =>
  o1 Tryd.prog (convert 107 5 t19) w fun t20 w =>
  o1 Tryd.prog (Instr.buildSlice 33 1 #[(0, t20)]) w fun t21 w =>
  ob Tryd.prog (fun _ => Builtin.append_ #[33, 33] 33 #[t18, t21]) w fun t22 w =>
  mv t22 fun t4_1 =>
  k t4_1 w)
theorem C.wots_number {k : Value → World → Prop} {a0 a1 : Value} {w : World} (h : F.wots_number k a0 a1 w) : C Tryd.prog N.wots_number #[a0, a1] w k :=
  den_calls (H := { moves := [], vars := [0, 4, 5] }) (args := [a0, a1]) mixed Tryd.func104 (by kernel_rfl) (by kernel_rfl) (by kernel_rfl) h

-- isthmus/sha.half
def F.sha_half (k : Value → World → Prop) (a0 : Value) (w : World) : Prop :=
  mv (.int .i64 0) fun t2 =>
  mv a0 fun t3 =>
  o1 Tryd.prog (bin .sub 3 (.tmp 3) (.const (.int .i64 1)) t3 (.int .i64 1)) w fun t4 w =>
  o1 Tryd.prog (convert 3 136 t4) w fun t5 w =>
  C Tryd.prog N.math_bits_Len #[t5] w fun t6 w =>
  o1 Tryd.prog (bin .sub 3 (.tmp 6) (.const (.int .i64 1)) t6 (.int .i64 1)) w fun t7 w =>
  o1 Tryd.prog (bin .shl 3 (.const (.int .i64 1)) (.tmp 7) (.int .i64 1) t7) w fun t8 w =>
  mv t8 fun t2_1 =>
  k t2_1 w
theorem C.sha_half {k : Value → World → Prop} {a0 : Value} {w : World} (h : F.sha_half k a0 w) : C Tryd.prog N.sha_half #[a0] w k :=
  den_calls (H := { moves := [], vars := [2] }) (args := [a0]) mixed Tryd.func105 (by kernel_rfl) (by kernel_rfl) (by kernel_rfl) h

-- math/bits.RotateLeft32
def F.math_bits_RotateLeft32 (k : Value → World → Prop) (a0 a1 : Value) (w : World) : Prop :=
  mv (.int .u32 0) fun t4 =>
  mv a1 fun t6 =>
  o1 Tryd.prog (convert 3 136 t6) w fun t7 w =>
  o1 Tryd.prog (bin .and 136 (.tmp 7) (.const (.int .u64 31)) t7 (.int .u64 31)) w fun t8 w =>
  mv t8 fun t5 =>
  mv a0 fun t9 =>
  mv t5 fun t10 =>
  o1 Tryd.prog (bin .shl 179 (.tmp 9) (.tmp 10) t9 t10) w fun t11 w =>
  mv a0 fun t12 =>
  mv t5 fun t13 =>
  o1 Tryd.prog (bin .sub 136 (.const (.int .u64 32)) (.tmp 13) (.int .u64 32) t13) w fun t14 w =>
  o1 Tryd.prog (bin .shr 179 (.tmp 12) (.tmp 14) t12 t14) w fun t15 w =>
  o1 Tryd.prog (bin .or 179 (.tmp 11) (.tmp 15) t11 t15) w fun t16 w =>
  mv t16 fun t4_1 =>
  k t4_1 w
theorem C.math_bits_RotateLeft32 {k : Value → World → Prop} {a0 a1 : Value} {w : World} (h : F.math_bits_RotateLeft32 k a0 a1 w) : C Tryd.prog N.math_bits_RotateLeft32 #[a0, a1] w k :=
  den_calls (H := { moves := [], vars := [4, 5] }) (args := [a0, a1]) mixed Tryd.func106 (by kernel_rfl) (by kernel_rfl) (by kernel_rfl) h

-- math/bits.Len
def F.math_bits_Len (k : Value → World → Prop) (a0 : Value) (w : World) : Prop :=
  mv (.int .i64 0) fun t2 =>
  br (.bool false) (fun _ =>
  mv a0 fun t3 =>
  o1 Tryd.prog (convert 136 179 t3) w fun t4 w =>
  C Tryd.prog N.math_bits_Len32 #[t4] w fun t5 w =>
  mv t5 fun t2_1 =>
  k t2_1 w) (fun _ =>
  mv a0 fun t6 =>
  C Tryd.prog N.math_bits_Len64 #[t6] w fun t7 w =>
  mv t7 fun t2_2 =>
  k t2_2 w)
theorem C.math_bits_Len {k : Value → World → Prop} {a0 : Value} {w : World} (h : F.math_bits_Len k a0 w) : C Tryd.prog N.math_bits_Len #[a0] w k :=
  den_calls (H := { moves := [], vars := [2] }) (args := [a0]) mixed Tryd.func107 (by kernel_rfl) (by kernel_rfl) (by kernel_rfl) h

-- math/bits.Len32
def F.math_bits_Len32 (k : Value → World → Prop) (a0 : Value) (w : World) : Prop :=
  mv (.int .i64 0) fun t2 =>
  mv a0 fun t3 =>
  o1 Tryd.prog (bin .geq 179 (.tmp 3) (.const (.int .u32 65536)) t3 (.int .u32 65536)) w fun t4 w =>
  jn (fun x1 => [x1 0, x1 2]) (fun k1 =>
  br t4 (fun _ =>
  mv a0 fun t5 =>
  o1 Tryd.prog (bin .shr 179 (.tmp 5) (.const (.int .u64 16)) t5 (.int .u64 16)) w fun t6 w =>
  mv t6 fun t0 =>
  mv (.int .i64 16) fun t2_1 =>
  k1 [t0, t2_1] w) (fun _ =>
  k1 [a0, t2] w)) fun x1 w =>
  mv (x1 0) fun t7 =>
  o1 Tryd.prog (bin .geq 179 (.tmp 7) (.const (.int .u32 256)) t7 (.int .u32 256)) w fun t8 w =>
  jn (fun x2 => [x2 0, x2 2]) (fun k2 =>
  br t8 (fun _ =>
  mv (x1 0) fun t9 =>
  o1 Tryd.prog (bin .shr 179 (.tmp 9) (.const (.int .u64 8)) t9 (.int .u64 8)) w fun t10 w =>
  mv t10 fun t0_1 =>
  mv (x1 2) fun t11 =>
  o1 Tryd.prog (bin .add 3 (.tmp 11) (.const (.int .i64 8)) t11 (.int .i64 8)) w fun t12 w =>
  mv t12 fun t2_2 =>
  k2 [t0_1, t2_2] w) (fun _ =>
  k2 [(x1 0), (x1 2)] w)) fun x2 w =>
  mv (x2 2) fun t13 =>
  mv (x2 0) fun t14 =>
  o1 Tryd.prog (convert 179 5 t14) w fun t15 w =>
  o1 Tryd.prog (Instr.index 9 (.string ⟨#[0, 1, 2, 2, 3, 3, 3, 3, 4, 4, 4, 4, 4, 4, 4, 4, 5, 5, 5, 5, 5, 5, 5, 5, 5, 5, 5, 5, 5, 5, 5, 5, 6, 6, 6, 6, 6, 6, 6, 6, 6, 6, 6, 6, 6, 6, 6, 6, 6, 6, 6, 6, 6, 6, 6, 6, 6, 6, 6, 6, 6, 6, 6, 6, 7, 7, 7, 7, 7, 7, 7, 7, 7, 7, 7, 7, 7, 7, 7, 7, 7, 7, 7, 7, 7, 7, 7, 7, 7, 7, 7, 7, 7, 7, 7, 7, 7, 7, 7, 7, 7, 7, 7, 7, 7, 7, 7, 7, 7, 7, 7, 7, 7, 7, 7, 7, 7, 7, 7, 7, 7, 7, 7, 7, 7, 7, 7, 7, 8, 8, 8, 8, 8, 8, 8, 8, 8, 8, 8, 8, 8, 8, 8, 8, 8, 8, 8, 8, 8, 8, 8, 8, 8, 8, 8, 8, 8, 8, 8, 8, 8, 8, 8, 8, 8, 8, 8, 8, 8, 8, 8, 8, 8, 8, 8, 8, 8, 8, 8, 8, 8, 8, 8, 8, 8, 8, 8, 8, 8, 8, 8, 8, 8, 8, 8, 8, 8, 8, 8, 8, 8, 8, 8, 8, 8, 8, 8, 8, 8, 8, 8, 8, 8, 8, 8, 8, 8, 8, 8, 8, 8, 8, 8, 8, 8, 8, 8, 8, 8, 8, 8, 8, 8, 8, 8, 8, 8, 8, 8, 8, 8, 8, 8, 8, 8, 8, 8, 8, 8, 8, 8, 8, 8, 8, 8, 8]⟩) t15) w fun t16 w =>
  o1 Tryd.prog (convert 5 3 t16) w fun t17 w =>
  o1 Tryd.prog (bin .add 3 (.tmp 13) (.tmp 17) t13 t17) w fun t18 w =>
  mv t18 fun t2_3 =>
  k t2_3 w
theorem C.math_bits_Len32 {k : Value → World → Prop} {a0 : Value} {w : World} (h : F.math_bits_Len32 k a0 w) : C Tryd.prog N.math_bits_Len32 #[a0] w k :=
  den_calls (H := { moves := [], vars := [0, 2] }) (args := [a0]) mixed Tryd.func108 (by kernel_rfl) (by kernel_rfl) (by kernel_rfl) h

-- math/bits.Len64
def F.math_bits_Len64 (k : Value → World → Prop) (a0 : Value) (w : World) : Prop :=
  mv (.int .i64 0) fun t2 =>
  mv a0 fun t3 =>
  o1 Tryd.prog (bin .geq 107 (.tmp 3) (.const (.int .u64 4294967296)) t3 (.int .u64 4294967296)) w fun t4 w =>
  jn (fun x1 => [x1 0, x1 2]) (fun k1 =>
  br t4 (fun _ =>
  mv a0 fun t5 =>
  o1 Tryd.prog (bin .shr 107 (.tmp 5) (.const (.int .u64 32)) t5 (.int .u64 32)) w fun t6 w =>
  mv t6 fun t0 =>
  mv (.int .i64 32) fun t2_1 =>
  k1 [t0, t2_1] w) (fun _ =>
  k1 [a0, t2] w)) fun x1 w =>
  mv (x1 0) fun t7 =>
  o1 Tryd.prog (bin .geq 107 (.tmp 7) (.const (.int .u64 65536)) t7 (.int .u64 65536)) w fun t8 w =>
  jn (fun x2 => [x2 0, x2 2]) (fun k2 =>
  br t8 (fun _ =>
  mv (x1 0) fun t9 =>
  o1 Tryd.prog (bin .shr 107 (.tmp 9) (.const (.int .u64 16)) t9 (.int .u64 16)) w fun t10 w =>
  mv t10 fun t0_1 =>
  mv (x1 2) fun t11 =>
  o1 Tryd.prog (bin .add 3 (.tmp 11) (.const (.int .i64 16)) t11 (.int .i64 16)) w fun t12 w =>
  mv t12 fun t2_2 =>
  k2 [t0_1, t2_2] w) (fun _ =>
  k2 [(x1 0), (x1 2)] w)) fun x2 w =>
  mv (x2 0) fun t13 =>
  o1 Tryd.prog (bin .geq 107 (.tmp 13) (.const (.int .u64 256)) t13 (.int .u64 256)) w fun t14 w =>
  jn (fun x3 => [x3 0, x3 2]) (fun k3 =>
  br t14 (fun _ =>
  mv (x2 0) fun t15 =>
  o1 Tryd.prog (bin .shr 107 (.tmp 15) (.const (.int .u64 8)) t15 (.int .u64 8)) w fun t16 w =>
  mv t16 fun t0_2 =>
  mv (x2 2) fun t17 =>
  o1 Tryd.prog (bin .add 3 (.tmp 17) (.const (.int .i64 8)) t17 (.int .i64 8)) w fun t18 w =>
  mv t18 fun t2_3 =>
  k3 [t0_2, t2_3] w) (fun _ =>
  k3 [(x2 0), (x2 2)] w)) fun x3 w =>
  mv (x3 2) fun t19 =>
  mv (x3 0) fun t20 =>
  o1 Tryd.prog (convert 107 5 t20) w fun t21 w =>
  o1 Tryd.prog (Instr.index 9 (.string ⟨#[0, 1, 2, 2, 3, 3, 3, 3, 4, 4, 4, 4, 4, 4, 4, 4, 5, 5, 5, 5, 5, 5, 5, 5, 5, 5, 5, 5, 5, 5, 5, 5, 6, 6, 6, 6, 6, 6, 6, 6, 6, 6, 6, 6, 6, 6, 6, 6, 6, 6, 6, 6, 6, 6, 6, 6, 6, 6, 6, 6, 6, 6, 6, 6, 7, 7, 7, 7, 7, 7, 7, 7, 7, 7, 7, 7, 7, 7, 7, 7, 7, 7, 7, 7, 7, 7, 7, 7, 7, 7, 7, 7, 7, 7, 7, 7, 7, 7, 7, 7, 7, 7, 7, 7, 7, 7, 7, 7, 7, 7, 7, 7, 7, 7, 7, 7, 7, 7, 7, 7, 7, 7, 7, 7, 7, 7, 7, 7, 8, 8, 8, 8, 8, 8, 8, 8, 8, 8, 8, 8, 8, 8, 8, 8, 8, 8, 8, 8, 8, 8, 8, 8, 8, 8, 8, 8, 8, 8, 8, 8, 8, 8, 8, 8, 8, 8, 8, 8, 8, 8, 8, 8, 8, 8, 8, 8, 8, 8, 8, 8, 8, 8, 8, 8, 8, 8, 8, 8, 8, 8, 8, 8, 8, 8, 8, 8, 8, 8, 8, 8, 8, 8, 8, 8, 8, 8, 8, 8, 8, 8, 8, 8, 8, 8, 8, 8, 8, 8, 8, 8, 8, 8, 8, 8, 8, 8, 8, 8, 8, 8, 8, 8, 8, 8, 8, 8, 8, 8, 8, 8, 8, 8, 8, 8, 8, 8, 8, 8, 8, 8, 8, 8, 8, 8, 8, 8]⟩) t21) w fun t22 w =>
  o1 Tryd.prog (convert 5 3 t22) w fun t23 w =>
  o1 Tryd.prog (bin .add 3 (.tmp 19) (.tmp 23) t19 t23) w fun t24 w =>
  mv t24 fun t2_4 =>
  k t2_4 w
theorem C.math_bits_Len64 {k : Value → World → Prop} {a0 : Value} {w : World} (h : F.math_bits_Len64 k a0 w) : C Tryd.prog N.math_bits_Len64 #[a0] w k :=
  den_calls (H := { moves := [], vars := [0, 2] }) (args := [a0]) mixed Tryd.func109 (by kernel_rfl) (by kernel_rfl) (by kernel_rfl) h

-- (*isthmus/api.Fault).Unwrap
def F.api_Fault_Unwrap (k : Value → World → Prop) (a0 : Value) (w : World) : Prop :=
  mv .nilIface fun t2 =>
  mv a0 fun t3 =>
  nilOk t3 = true ∧ mv t3 fun t4 =>
  o1 Tryd.prog (Instr.fieldAt 113 t4 1) w fun t5 w =>
  o1 Tryd.prog (Instr.loadAt 37 t5) w fun t6 w =>
  mv t6 fun t2_1 =>
  k t2_1 w
theorem C.api_Fault_Unwrap {k : Value → World → Prop} {a0 : Value} {w : World} (h : F.api_Fault_Unwrap k a0 w) : C Tryd.prog N.api_Fault_Unwrap #[a0] w k :=
  den_calls (H := { moves := [], vars := [2] }) (args := [a0]) mixed Tryd.func130 (by kernel_rfl) (by kernel_rfl) (by kernel_rfl) h

-- gosem.cut.vars
end Go.Proofs.YtlfelmikcdmkhaaDoor
