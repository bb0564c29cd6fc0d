/- What each function asks: printed by hoas.py off the loaded program; each is held against the program by the kernel. -/
import Derived.Test.YtiaiglgfangedaaN
set_option linter.unusedVariables false
set_option linter.unusedSimpArgs false
set_option linter.unusedSectionVars false
namespace Go.Proofs.Ytiaiglgfangedaa
open Go Go.Isk
set_option maxRecDepth 100000
-- (*isthmus/files.FS).change
def F.files_FS_change (k : Value → World → Prop) (a0 a1 a2 : Value) (w : World) : Prop :=
  mv .nilIface fun t6 =>
  mv a0 fun t11 =>
  mv a1 fun t12 =>
  C Try.prog N.files_FS_find #[t11, t12] w fun t13 w =>
  mv t13 fun t10 =>
  o1 Try.prog (Instr.extract t10 0) w fun t14 w =>
  o1 Try.prog (Instr.extract t10 1) w fun t15 w =>
  o1 Try.prog (Instr.alloc 46 true (.tuple #[])) w fun t7 w =>
  o0 Try.prog (Instr.storeAt 46 t7 t14) w fun _ w =>
  mv t15 fun t8 =>
  mv t8 fun t16 =>
  o1 Try.prog (bin .neq 30 (.tmp 16) (.const .nilIface) t16 .nilIface) w fun t17 w =>
  br t17 (fun _ =>
  mv t8 fun t18 =>
  mv t18 fun t6_1 =>
  k t6_1 w) (fun _ =>
  mv a0 fun t19 =>
  C Try.prog N.files_FS_step #[t19] w fun t20 w =>
  mv t20 fun t9 =>
  mv t9 fun t21 =>
  o1 Try.prog (bin .neq 30 (.tmp 21) (.const .nilIface) t21 .nilIface) w fun t22 w =>
  br t22 (fun _ =>
  mv t9 fun t23 =>
  mv t23 fun t6_2 =>
  k t6_2 w) (fun _ =>
  mv a2 fun t24 =>
  o1 Try.prog (Instr.loadAt 46 t7) w fun t25 w =>
  cv Try.prog t24 #[t25] w fun t26 w =>
  mv .nilIface fun t6_3 =>
  k t6_3 w))
theorem C.files_FS_change {k : Value → World → Prop} {a0 a1 a2 : Value} {w : World} (h : F.files_FS_change k a0 a1 a2 w) : C Try.prog N.files_FS_change #[a0, a1, a2] w k :=
  den_calls (H := { moves := [], vars := [6, 8, 9] }) (args := [a0, a1, a2]) mixed Try.func16 (by kernel_rfl) (by kernel_rfl) (by kernel_rfl) h

-- (*isthmus/files.FS).Sync$1
def F.files_FS_Sync_1 (k : Value → World → Prop) (a0 a1 a2 : Value) (w : World) : Prop :=
  o1 Try.prog (Instr.box 46 a0) w fun t3 w =>
  dr w.drew fun S1 =>
  tk Try.prog S1 (Instr.loadAt 26 a1) fun t4 =>
  nilOk t4 = true ∧ mv t4 fun t5 =>
  tk Try.prog S1 (Instr.fieldAt 43 t5 0) fun t6 =>
  tk Try.prog S1 (Instr.loadAt 41 t6) fun t7 =>
  tk Try.prog S1 (Instr.loadAt 9 a2) fun t8 =>
  tk Try.prog S1 (Instr.fieldAt 46 t3 0) fun t9 =>
  tk Try.prog S1 (Instr.loadAt 22 t9) fun t10 =>
  tk Try.prog S1 (Instr.fieldAt 46 t3 0) fun t11 =>
  tk Try.prog S1 (Instr.loadAt 22 t11) fun t12 =>
  tk Try.prog S1 (Builtin.len_ #[22] 3 #[t12]) fun t13 =>
  tk Try.prog S1 (Instr.build 46 #[(0, t10), (1, t13)]) fun t14 =>
  o0 Try.prog (Instr.mapUpdate 41 t7 t8 t14) w.drew fun _ w =>
  k (.tuple #[]) w
theorem C.files_FS_Sync_1 {k : Value → World → Prop} {a0 a1 a2 : Value} {w : World} (h : F.files_FS_Sync_1 k a0 a1 a2 w) : C Try.prog N.files_FS_Sync_1 #[a0, a1, a2] w k :=
  den_calls (H := { moves := [(1, (.take 0 (.take 1 (.take 2 (.take 3 (.take 4 (.take 5 (.take 6 (.take 7 (.take 8 (.take 9 (.take 10 (.last 11)))))))))))))], vars := [] }) (args := [a0, a1, a2]) mixed Try.func17 (by kernel_rfl) (by kernel_rfl) (by kernel_rfl) h

-- (*isthmus/files.FS).List
def F.files_FS_List (k : Value → World → Prop) (a0 : Value) (w : World) : Prop :=
  mv (.slice none 0 0) fun t2 =>
  mv a0 fun t3 =>
  o1 Try.prog (bin .eql 26 (.tmp 3) (.const (.pointer none)) t3 (.pointer none)) w fun t4 w =>
  br t4 (fun _ =>
  mv (.slice none 0 0) fun t2_1 =>
  k t2_1 w) (fun _ =>
  mv a0 fun t5 =>
  nilOk t5 = true ∧ mv t5 fun t6 =>
  o1 Try.prog (Instr.fieldAt 43 t6 0) w fun t7 w =>
  o1 Try.prog (Instr.loadAt 41 t7) w fun t8 w =>
  C Try.prog N.maps_Keys_map_string_files_file_string_files_file #[t8] w fun t9 w =>
  C Try.prog N.slices_Sorted_string #[t9] w fun t10 w =>
  mv t10 fun t2_2 =>
  k t2_2 w)
theorem C.files_FS_List {k : Value → World → Prop} {a0 : Value} {w : World} (h : F.files_FS_List k a0 w) : C Try.prog N.files_FS_List #[a0] w k :=
  den_calls (H := { moves := [], vars := [2] }) (args := [a0]) mixed Try.func18 (by kernel_rfl) (by kernel_rfl) (by kernel_rfl) h

-- (*isthmus/files.FS).find
def F.files_FS_find (k : Value → World → Prop) (a0 a1 : Value) (w : World) : Prop :=
  o1 Try.prog (Instr.alloc 46 true (.tuple #[])) w fun t4 w =>
  mv .nilIface fun t5 =>
  mv a0 fun t9 =>
  mv a1 fun t10 =>
  o1 Try.prog (Instr.buildSlice 53 1 #[(0, t10)]) w fun t11 w =>
  C Try.prog N.files_FS_ready #[t9, t11] w fun t12 w =>
  mv t12 fun t6 =>
  mv t6 fun t13 =>
  o1 Try.prog (bin .neq 30 (.tmp 13) (.const .nilIface) t13 .nilIface) w fun t14 w =>
  br t14 (fun _ =>
  o1 Try.prog (Instr.build 46 #[]) w fun t15 w =>
  mv t6 fun t16 =>
  o0 Try.prog (Instr.storeAt 46 t4 t15) w fun _ w =>
  mv t16 fun t5_1 =>
  rc Try.prog 46 t4 w fun r0 =>
  k (.tuple #[r0, t5_1]) w) (fun _ =>
  mv a0 fun t18 =>
  nilOk t18 = true ∧ mv t18 fun t19 =>
  o1 Try.prog (Instr.fieldAt 43 t19 0) w fun t20 w =>
  o1 Try.prog (Instr.loadAt 41 t20) w fun t21 w =>
  mv a1 fun t22 =>
  o1 Try.prog (Instr.lookup 41 t21 t22 true) w fun t23 w =>
  mv t23 fun t17 =>
  o1 Try.prog (Instr.extract t17 0) w fun t24 w =>
  o1 Try.prog (Instr.extract t17 1) w fun t25 w =>
  o1 Try.prog (Instr.alloc 46 true (.tuple #[])) w fun t7 w =>
  o0 Try.prog (Instr.storeAt 46 t7 t24) w fun _ w =>
  mv t25 fun t8 =>
  mv t8 fun t26 =>
  o1 Try.prog (Op.unary .not t26) w fun t27 w =>
  br t27 (fun _ =>
  o1 Try.prog (Instr.build 46 #[]) w fun t28 w =>
  mv a1 fun t29 =>
  C Try.prog N.files_fault #[t29, .int .i64 8] w fun t30 w =>
  o0 Try.prog (Instr.storeAt 46 t4 t28) w fun _ w =>
  mv t30 fun t5_2 =>
  rc Try.prog 46 t4 w fun r0 =>
  k (.tuple #[r0, t5_2]) w) (fun _ =>
  o1 Try.prog (Instr.loadAt 46 t7) w fun t31 w =>
  o0 Try.prog (Instr.storeAt 46 t4 t31) w fun _ w =>
  mv .nilIface fun t5_3 =>
  rc Try.prog 46 t4 w fun r0 =>
  k (.tuple #[r0, t5_3]) w))
theorem C.files_FS_find {k : Value → World → Prop} {a0 a1 : Value} {w : World} (h : F.files_FS_find k a0 a1 w) : C Try.prog N.files_FS_find #[a0, a1] w k :=
  den_calls (H := { moves := [], vars := [5, 6, 8] }) (args := [a0, a1]) mixed Try.func19 (by kernel_rfl) (by kernel_rfl) (by kernel_rfl) h

-- slices.Clone[[]byte,byte]
def F.slices_Clone_bytes (k : Value → World → Prop) (a0 : Value) (w : World) : Prop :=
  mv (.slice none 0 0) fun t2 =>
  mv a0 fun t3 =>
  o1 Try.prog (bin .eql 22 (.tmp 3) (.const (.slice none 0 0)) t3 (.slice none 0 0)) w fun t4 w =>
  br t4 (fun _ =>
  mv (.slice none 0 0) fun t2_1 =>
  k t2_1 w) (fun _ =>
  o1 Try.prog (Instr.buildSlice 22 0 #[]) w fun t5 w =>
  mv a0 fun t6 =>
  ob Try.prog (fun _ => Builtin.append_ #[22, 22] 22 #[t5, t6]) w fun t7 w =>
  mv t7 fun t2_2 =>
  k t2_2 w)
theorem C.slices_Clone_bytes {k : Value → World → Prop} {a0 : Value} {w : World} (h : F.slices_Clone_bytes k a0 w) : C Try.prog N.slices_Clone_bytes #[a0] w k :=
  den_calls (H := { moves := [], vars := [2] }) (args := [a0]) mixed Try.func20 (by kernel_rfl) (by kernel_rfl) (by kernel_rfl) h

-- isthmus/files.named
def F.files_named (k : Value → World → Prop) (a0 : Value) (w : World) : Prop :=
  mv (.bool false) fun t2 =>
  mv a0 fun t3 =>
  o1 Try.prog (Builtin.len_ #[9] 3 #[t3]) w fun t4 w =>
  o1 Try.prog (bin .geq 3 (.tmp 4) (.const (.int .i64 1)) t4 (.int .i64 1)) w fun t5 w =>
  mv t5 fun t6 =>
  gd t6 true (fun k1 => mv a0 fun v => k1 v w) w fun t7 w =>
  gd t6 true (fun k2 => o1 Try.prog (Builtin.len_ #[9] 3 #[t7]) w k2) w fun t8 w =>
  gd t6 true (fun k3 => o1 Try.prog (bin .leq 3 (.tmp 8) (.const (.int .i64 64)) t8 (.int .i64 64)) w k3) w fun t9 w =>
  pk t6 t9 (.bool false) fun t10 =>
  mv t10 fun t11 =>
  gd t11 true (fun k4 => mv a0 fun v => k4 v w) w fun t12 w =>
  gd t11 true (fun k5 => o1 Try.prog (convert 9 22 t12) w k5) w fun t13 w =>
  gd t11 true (fun k6 => C Try.prog N.slices_ContainsFunc_bytes #[t13, .func (.func 25) #[] #[]] w k6) w fun t14 w =>
  gd t11 true (fun k7 => o1 Try.prog (Op.unary .not t14) w k7) w fun t15 w =>
  pk t11 t15 (.bool false) fun t16 =>
  mv t16 fun t2_1 =>
  k t2_1 w
theorem C.files_named {k : Value → World → Prop} {a0 : Value} {w : World} (h : F.files_named k a0 w) : C Try.prog N.files_named #[a0] w k :=
  den_calls (H := { moves := [], vars := [2] }) (args := [a0]) mixed Try.func21 (by kernel_rfl) (by kernel_rfl) (by kernel_rfl) h

-- slices.Sorted[string]
def F.slices_Sorted_string (k : Value → World → Prop) (a0 : Value) (w : World) : Prop :=
  mv (.slice none 0 0) fun t2 =>
  mv a0 fun t4 =>
  C Try.prog N.slices_Collect_string #[t4] w fun t5 w =>
  mv t5 fun t3 =>
  mv t3 fun t6 =>
  C Try.prog N.slices_Sort_string_string #[t6] w fun t7 w =>
  mv t3 fun t8 =>
  mv t8 fun t2_1 =>
  k t2_1 w
theorem C.slices_Sorted_string {k : Value → World → Prop} {a0 : Value} {w : World} (h : F.slices_Sorted_string k a0 w) : C Try.prog N.slices_Sorted_string #[a0] w k :=
  den_calls (H := { moves := [], vars := [2, 3] }) (args := [a0]) mixed Try.func22 (by kernel_rfl) (by kernel_rfl) (by kernel_rfl) h

-- maps.Keys[map[string]isthmus/files.file,string,isthmus/files.file]
def F.maps_Keys_map_string_files_file_string_files_file (k : Value → World → Prop) (a0 : Value) (w : World) : Prop :=
  o1 Try.prog (Instr.box 41 a0) w fun t1 w =>
  mv .nilFunc fun t2 =>
  o1 Try.prog (Instr.makeFunc (.func 28) #[] #[t1]) w fun t3 w =>
  mv t3 fun t2_1 =>
  k t2_1 w
theorem C.maps_Keys_map_string_files_file_string_files_file {k : Value → World → Prop} {a0 : Value} {w : World} (h : F.maps_Keys_map_string_files_file_string_files_file k a0 w) : C Try.prog N.maps_Keys_map_string_files_file_string_files_file #[a0] w k :=
  den_calls (H := { moves := [], vars := [2] }) (args := [a0]) mixed Try.func23 (by kernel_rfl) (by kernel_rfl) (by kernel_rfl) h

-- slices.ContainsFunc[[]byte,byte]
def F.slices_ContainsFunc_bytes (k : Value → World → Prop) (a0 a1 : Value) (w : World) : Prop :=
  mv (.bool false) fun t4 =>
  mv a0 fun t5 =>
  mv a1 fun t6 =>
  C Try.prog N.slices_IndexFunc_bytes #[t5, t6] w fun t7 w =>
  o1 Try.prog (bin .geq 3 (.tmp 7) (.const (.int .i64 0)) t7 (.int .i64 0)) w fun t8 w =>
  mv t8 fun t4_1 =>
  k t4_1 w
theorem C.slices_ContainsFunc_bytes {k : Value → World → Prop} {a0 a1 : Value} {w : World} (h : F.slices_ContainsFunc_bytes k a0 a1 w) : C Try.prog N.slices_ContainsFunc_bytes #[a0, a1] w k :=
  den_calls (H := { moves := [], vars := [4] }) (args := [a0, a1]) mixed Try.func24 (by kernel_rfl) (by kernel_rfl) (by kernel_rfl) h

-- isthmus/files.named$1
def F.files_named_1 (k : Value → World → Prop) (a0 : Value) (w : World) : Prop :=
  mv (.bool false) fun t2 =>
  mv a0 fun t3 =>
  o1 Try.prog (bin .lss 5 (.tmp 3) (.const (.int .u8 33)) t3 (.int .u8 33)) w fun t4 w =>
  mv t4 fun t5 =>
  gd t5 false (fun k1 => mv a0 fun v => k1 v w) w fun t6 w =>
  gd t5 false (fun k2 => o1 Try.prog (bin .gtr 5 (.tmp 6) (.const (.int .u8 126)) t6 (.int .u8 126)) w k2) w fun t7 w =>
  pk t5 (.bool true) t7 fun t8 =>
  mv t8 fun t2_1 =>
  k t2_1 w
theorem C.files_named_1 {k : Value → World → Prop} {a0 : Value} {w : World} (h : F.files_named_1 k a0 w) : C Try.prog N.files_named_1 #[a0] w k :=
  den_calls (H := { moves := [], vars := [2] }) (args := [a0]) mixed Try.func25 (by kernel_rfl) (by kernel_rfl) (by kernel_rfl) h

-- slices.Collect[string]
def F.slices_Collect_string (k : Value → World → Prop) (a0 : Value) (w : World) : Prop :=
  mv (.slice none 0 0) fun t2 =>
  mv a0 fun t3 =>
  C Try.prog N.slices_AppendSeq_string_string #[.slice none 0 0, t3] w fun t4 w =>
  mv t4 fun t2_1 =>
  k t2_1 w
theorem C.slices_Collect_string {k : Value → World → Prop} {a0 : Value} {w : World} (h : F.slices_Collect_string k a0 w) : C Try.prog N.slices_Collect_string #[a0] w k :=
  den_calls (H := { moves := [], vars := [2] }) (args := [a0]) mixed Try.func26 (by kernel_rfl) (by kernel_rfl) (by kernel_rfl) h

-- slices.Sort[[]string,string]
def F.slices_Sort_string_string (k : Value → World → Prop) (a0 : Value) (w : World) : Prop :=
  mv a0 fun t3 =>
  o1 Try.prog (Builtin.len_ #[53] 3 #[t3]) w fun t4 w =>
  mv t4 fun t2 =>
  mv a0 fun t5 =>
  mv t2 fun t6 =>
  mv t2 fun t7 =>
  o1 Try.prog (convert 3 34 t7) w fun t8 w =>
  C Try.prog N.math_bits_Len #[t8] w fun t9 w =>
  C Try.prog N.slices_pdqsortOrdered_string #[t5, .int .i64 0, t6, t9] w fun t10 w =>
  k (.tuple #[]) w
theorem C.slices_Sort_string_string {k : Value → World → Prop} {a0 : Value} {w : World} (h : F.slices_Sort_string_string k a0 w) : C Try.prog N.slices_Sort_string_string #[a0] w k :=
  den_calls (H := { moves := [], vars := [2] }) (args := [a0]) mixed Try.func27 (by kernel_rfl) (by kernel_rfl) (by kernel_rfl) h

-- maps.Keys[map[string]isthmus/files.file,string,isthmus/files.file]$1
-- slices.IndexFunc[[]byte,byte]
def F.slices_IndexFunc_bytes (k : Value → World → Prop) (a0 a1 : Value) (w : World) : Prop :=
  mv (.int .i64 0) fun t4 =>
  mv a0 fun t6 =>
  o1 Try.prog (Builtin.len_ #[22] 3 #[t6]) w fun t7 w =>
  mv (.int .i64 0) fun t8 =>
  lp [t4, undef, t8] w fun I1 μ1 => ∀ (x1 : Env) (w1 : World), I1 [x1 4, x1 5, x1 8] w1 →
  o1 Try.prog (bin .lss 3 (.tmp 8) (.tmp 7) (x1 8) t7) w1 fun t9 w =>
  br t9 (fun _ =>
  mv (x1 8) fun t10 =>
  mv t10 fun t5 =>
  mv a1 fun t11 =>
  mv a0 fun t12 =>
  mv t5 fun t13 =>
  o1 Try.prog (Instr.indexAt 22 t12 t13) w fun t14 w =>
  o1 Try.prog (Instr.loadAt 5 t14) w fun t15 w =>
  cv Try.prog t11 #[t15] w fun t16 w =>
  br t16 (fun _ =>
  mv t5 fun t17 =>
  mv t17 fun t4_1 =>
  k t4_1 w) (fun _ =>
  o1 Try.prog (bin .add 3 (.tmp 8) (.const (.int .i64 1)) (x1 8) (.int .i64 1)) w fun t18 w =>
  mv t18 fun t8_1 =>
  I1 [(x1 4), t5, t8_1] w ∧ μ1 [(x1 4), t5, t8_1] w < μ1 [x1 4, x1 5, x1 8] w1)) (fun _ =>
  mv (.int .i64 (-1)) fun t4_2 =>
  k t4_2 w)
theorem C.slices_IndexFunc_bytes {k : Value → World → Prop} {a0 a1 : Value} {w : World} (h : F.slices_IndexFunc_bytes k a0 a1 w) : C Try.prog N.slices_IndexFunc_bytes #[a0, a1] w k :=
  den_calls (H := { moves := [], vars := [4, 5, 8] }) (args := [a0, a1]) mixed Try.func29 (by kernel_rfl) (by kernel_rfl) (by kernel_rfl) h

-- slices.pdqsortOrdered[string]
def F.slices_pdqsortOrdered_string (k : Value → World → Prop) (a0 a1 a2 a3 : Value) (w : World) : Prop :=
  mv (.bool true) fun t8 =>
  mv (.bool true) fun t9 =>
  lp [a1, a2, a3, t8, t9, undef, undef, undef, undef, undef, undef, undef, undef, undef] w fun I1 μ1 => ∀ (x1 : Env) (w1 : World), I1 [x1 1, x1 2, x1 3, x1 8, x1 9, x1 10, x1 11, x1 12, x1 13, x1 14, x1 15, x1 16, x1 17, x1 18] w1 →
  jn (fun x2 => [x2 1, x2 2, x2 3, x2 8, x2 9, x2 10, x2 11, x2 12, x2 13, x2 14, x2 15, x2 16, x2 17, x2 18]) (fun k1 =>
  mv (x1 2) fun t19 =>
  mv (x1 1) fun t20 =>
  o1 Try.prog (bin .sub 3 (.tmp 19) (.tmp 20) t19 t20) w1 fun t21 w =>
  mv t21 fun t10 =>
  mv t10 fun t22 =>
  o1 Try.prog (bin .leq 3 (.tmp 22) (.const (.int .i64 12)) t22 (.int .i64 12)) w fun t23 w =>
  br t23 (fun _ =>
  mv a0 fun t24 =>
  mv (x1 1) fun t25 =>
  mv (x1 2) fun t26 =>
  C Try.prog N.slices_insertionSortOrdered_string #[t24, t25, t26] w fun t27 w =>
  k (.tuple #[]) w) (fun _ =>
  mv (x1 3) fun t28 =>
  o1 Try.prog (bin .eql 3 (.tmp 28) (.const (.int .i64 0)) t28 (.int .i64 0)) w fun t29 w =>
  br t29 (fun _ =>
  mv a0 fun t30 =>
  mv (x1 1) fun t31 =>
  mv (x1 2) fun t32 =>
  C Try.prog N.slices_heapSortOrdered_string #[t30, t31, t32] w fun t33 w =>
  k (.tuple #[]) w) (fun _ =>
  mv (x1 8) fun t34 =>
  o1 Try.prog (Op.unary .not t34) w fun t35 w =>
  jn (fun x3 => [x3 3]) (fun k2 =>
  br t35 (fun _ =>
  mv a0 fun t36 =>
  mv (x1 1) fun t37 =>
  mv (x1 2) fun t38 =>
  C Try.prog N.slices_breakPatternsOrdered_string #[t36, t37, t38] w fun t39 w =>
  mv (x1 3) fun t40 =>
  o1 Try.prog (bin .sub 3 (.tmp 40) (.const (.int .i64 1)) t40 (.int .i64 1)) w fun t41 w =>
  mv t41 fun t3 =>
  k2 [t3] w) (fun _ =>
  k2 [(x1 3)] w)) fun x3 w =>
  mv a0 fun t43 =>
  mv (x1 1) fun t44 =>
  mv (x1 2) fun t45 =>
  C Try.prog N.slices_choosePivotOrdered_string #[t43, t44, t45] w fun t46 w =>
  mv t46 fun t42 =>
  o1 Try.prog (Instr.extract t42 0) w fun t47 w =>
  o1 Try.prog (Instr.extract t42 1) w fun t48 w =>
  mv t47 fun t11 =>
  mv t48 fun t12 =>
  mv t12 fun t49 =>
  o1 Try.prog (bin .eql 74 (.tmp 49) (.const (.int .i64 2)) t49 (.int .i64 2)) w fun t50 w =>
  jn (fun x4 => [x4 11, x4 12]) (fun k3 =>
  br t50 (fun _ =>
  mv a0 fun t51 =>
  mv (x1 1) fun t52 =>
  mv (x1 2) fun t53 =>
  C Try.prog N.slices_reverseRangeOrdered_string #[t51, t52, t53] w fun t54 w =>
  mv (x1 2) fun t55 =>
  o1 Try.prog (bin .sub 3 (.tmp 55) (.const (.int .i64 1)) t55 (.int .i64 1)) w fun t56 w =>
  mv t11 fun t57 =>
  mv (x1 1) fun t58 =>
  o1 Try.prog (bin .sub 3 (.tmp 57) (.tmp 58) t57 t58) w fun t59 w =>
  o1 Try.prog (bin .sub 3 (.tmp 56) (.tmp 59) t56 t59) w fun t60 w =>
  mv t60 fun t11_1 =>
  mv (.int .i64 1) fun t12_1 =>
  k3 [t11_1, t12_1] w) (fun _ =>
  k3 [t11, t12] w)) fun x4 w =>
  mv (x1 8) fun t61 =>
  mv t61 fun t62 =>
  gd t62 true (fun k4 => mv (x1 9) fun v => k4 v w) w fun t63 w =>
  pk t62 t63 (.bool false) fun t64 =>
  mv t64 fun t65 =>
  gd t65 true (fun k5 => mv (x4 12) fun v => k5 v w) w fun t66 w =>
  gd t65 true (fun k6 => o1 Try.prog (bin .eql 74 (.tmp 66) (.const (.int .i64 1)) t66 (.int .i64 1)) w k6) w fun t67 w =>
  pk t65 t67 (.bool false) fun t68 =>
  jn (fun x5 => []) (fun k7 =>
  br t68 (fun _ =>
  mv a0 fun t69 =>
  mv (x1 1) fun t70 =>
  mv (x1 2) fun t71 =>
  C Try.prog N.slices_partialInsertionSortOrdered_string #[t69, t70, t71] w fun t72 w =>
  br t72 (fun _ =>
  k (.tuple #[]) w) (fun _ =>
  k7 [] w)) (fun _ =>
  k7 [] w)) fun x5 w =>
  dr w.drew fun S1 =>
  mv (x1 1) fun t73 =>
  tk Try.prog S1 (bin .gtr 3 (.tmp 73) (.const (.int .i64 0)) t73 (.int .i64 0)) fun t74 =>
  mv t74 fun t75 =>
  gdT t75 true (fun k8 => mv a0 k8) fun t76 =>
  gdT t75 true (fun k9 => mv (x1 1) k9) fun t77 =>
  gdT t75 true (fun k10 => tk Try.prog S1 (bin .sub 3 (.tmp 77) (.const (.int .i64 1)) t77 (.int .i64 1)) k10) fun t78 =>
  gdT t75 true (fun k11 => tk Try.prog S1 (Instr.indexAt 53 t76 t78) k11) fun t79 =>
  gdT t75 true (fun k12 => tk Try.prog S1 (Instr.loadAt 9 t79) k12) fun t80 =>
  gdT t75 true (fun k13 => mv a0 k13) fun t81 =>
  gdT t75 true (fun k14 => mv (x4 11) k14) fun t82 =>
  gdT t75 true (fun k15 => tk Try.prog S1 (Instr.indexAt 53 t81 t82) k15) fun t83 =>
  gdT t75 true (fun k16 => tk Try.prog S1 (Instr.loadAt 9 t83) k16) fun t84 =>
  gd t75 true (fun k17 => C Try.prog N.cmp_Less_string #[t80, t84] w.drew k17) w.drew fun t85 w =>
  S1 w ∧
  gdT t75 true (fun k18 => tk Try.prog S1 (Op.unary .not t85) k18) fun t86 =>
  pk t75 t86 (.bool false) fun t87 =>
  br t87 (fun _ =>
  mv a0 fun t88 =>
  mv (x1 1) fun t89 =>
  mv (x1 2) fun t90 =>
  mv (x4 11) fun t91 =>
  C Try.prog N.slices_partitionEqualOrdered_string #[t88, t89, t90, t91] w fun t92 w =>
  mv t92 fun t13 =>
  mv t13 fun t93 =>
  mv t93 fun t1 =>
  k1 [t1, (x1 2), (x3 3), (x1 8), (x1 9), t10, (x4 11), (x4 12), t13, (x1 14), (x1 15), (x1 16), (x1 17), (x1 18)] w) (fun _ =>
  mv a0 fun t95 =>
  mv (x1 1) fun t96 =>
  mv (x1 2) fun t97 =>
  mv (x4 11) fun t98 =>
  C Try.prog N.slices_partitionOrdered_string #[t95, t96, t97, t98] w fun t99 w =>
  mv t99 fun t94 =>
  o1 Try.prog (Instr.extract t94 0) w fun t100 w =>
  o1 Try.prog (Instr.extract t94 1) w fun t101 w =>
  mv t100 fun t14 =>
  mv t101 fun t15 =>
  mv t15 fun t102 =>
  mv t102 fun t9_1 =>
  mv t14 fun t103 =>
  mv (x1 1) fun t104 =>
  o1 Try.prog (bin .sub 3 (.tmp 103) (.tmp 104) t103 t104) w fun t105 w =>
  mv (x1 2) fun t106 =>
  mv t14 fun t107 =>
  o1 Try.prog (bin .sub 3 (.tmp 106) (.tmp 107) t106 t107) w fun t108 w =>
  mv t105 fun t16 =>
  mv t108 fun t17 =>
  mv t10 fun t109 =>
  o1 Try.prog (bin .quo 3 (.tmp 109) (.const (.int .i64 8)) t109 (.int .i64 8)) w fun t110 w =>
  mv t110 fun t18 =>
  mv t16 fun t111 =>
  mv t17 fun t112 =>
  o1 Try.prog (bin .lss 3 (.tmp 111) (.tmp 112) t111 t112) w fun t113 w =>
  jn (fun x6 => [x6 1, x6 2, x6 8]) (fun k19 =>
  br t113 (fun _ =>
  mv t16 fun t114 =>
  mv t18 fun t115 =>
  o1 Try.prog (bin .geq 3 (.tmp 114) (.tmp 115) t114 t115) w fun t116 w =>
  mv t116 fun t8_1 =>
  mv a0 fun t117 =>
  mv (x1 1) fun t118 =>
  mv t14 fun t119 =>
  mv (x3 3) fun t120 =>
  C Try.prog N.slices_pdqsortOrdered_string #[t117, t118, t119, t120] w fun t121 w =>
  mv t14 fun t122 =>
  o1 Try.prog (bin .add 3 (.tmp 122) (.const (.int .i64 1)) t122 (.int .i64 1)) w fun t123 w =>
  mv t123 fun t1_1 =>
  k19 [t1_1, (x1 2), t8_1] w) (fun _ =>
  mv t17 fun t124 =>
  mv t18 fun t125 =>
  o1 Try.prog (bin .geq 3 (.tmp 124) (.tmp 125) t124 t125) w fun t126 w =>
  mv t126 fun t8_2 =>
  mv a0 fun t127 =>
  mv t14 fun t128 =>
  o1 Try.prog (bin .add 3 (.tmp 128) (.const (.int .i64 1)) t128 (.int .i64 1)) w fun t129 w =>
  mv (x1 2) fun t130 =>
  mv (x3 3) fun t131 =>
  C Try.prog N.slices_pdqsortOrdered_string #[t127, t129, t130, t131] w fun t132 w =>
  mv t14 fun t133 =>
  mv t133 fun t2 =>
  k19 [(x1 1), t2, t8_2] w)) fun x6 w =>
  k1 [(x6 1), (x6 2), (x3 3), (x6 8), t9_1, t10, (x4 11), (x4 12), (x1 13), t14, t15, t16, t17, t18] w)))) fun x2 w =>
  I1 [(x2 1), (x2 2), (x2 3), (x2 8), (x2 9), (x2 10), (x2 11), (x2 12), (x2 13), (x2 14), (x2 15), (x2 16), (x2 17), (x2 18)] w ∧ μ1 [(x2 1), (x2 2), (x2 3), (x2 8), (x2 9), (x2 10), (x2 11), (x2 12), (x2 13), (x2 14), (x2 15), (x2 16), (x2 17), (x2 18)] w < μ1 [x1 1, x1 2, x1 3, x1 8, x1 9, x1 10, x1 11, x1 12, x1 13, x1 14, x1 15, x1 16, x1 17, x1 18] w1
theorem C.slices_pdqsortOrdered_string {k : Value → World → Prop} {a0 a1 a2 a3 : Value} {w : World} (h : F.slices_pdqsortOrdered_string k a0 a1 a2 a3 w) : C Try.prog N.slices_pdqsortOrdered_string #[a0, a1, a2, a3] w k :=
  den_calls (H := { moves := [(17, (.take 0 (.take 1 (.take 2 (.take 3 (.take 4 (.take 5 (.take 6 (.take 7 (.take 8 (.take 9 (.take 10 (.take 11 (.force 12 (.take 13 (.take 14 .fin))))))))))))))))], vars := [1, 2, 3, 8, 9, 10, 11, 12, 13, 14, 15, 16, 17, 18] }) (args := [a0, a1, a2, a3]) mixed Try.func31 (by kernel_rfl) (by kernel_rfl) (by kernel_rfl) h

-- math/bits.Len
def F.math_bits_Len (k : Value → World → Prop) (a0 : Value) (w : World) : Prop :=
  mv (.int .i64 0) fun t2 =>
  br (.bool false) (fun _ =>
  mv a0 fun t3 =>
  o1 Try.prog (convert 34 83 t3) w fun t4 w =>
  C Try.prog N.math_bits_Len32 #[t4] w fun t5 w =>
  mv t5 fun t2_1 =>
  k t2_1 w) (fun _ =>
  mv a0 fun t6 =>
  C Try.prog N.math_bits_Len64 #[t6] w fun t7 w =>
  mv t7 fun t2_2 =>
  k t2_2 w)
theorem C.math_bits_Len {k : Value → World → Prop} {a0 : Value} {w : World} (h : F.math_bits_Len k a0 w) : C Try.prog N.math_bits_Len #[a0] w k :=
  den_calls (H := { moves := [], vars := [2] }) (args := [a0]) mixed Try.func32 (by kernel_rfl) (by kernel_rfl) (by kernel_rfl) h

-- slices.insertionSortOrdered[string]
def F.slices_insertionSortOrdered_string (k : Value → World → Prop) (a0 a1 a2 : Value) (w : World) : Prop :=
  mv a1 fun t8 =>
  o1 Try.prog (bin .add 3 (.tmp 8) (.const (.int .i64 1)) t8 (.int .i64 1)) w fun t9 w =>
  mv t9 fun t6 =>
  lp [t6, undef] w fun I1 μ1 => ∀ (x1 : Env) (w1 : World), I1 [x1 6, x1 7] w1 →
  mv (x1 6) fun t10 =>
  mv a2 fun t11 =>
  o1 Try.prog (bin .lss 3 (.tmp 10) (.tmp 11) t10 t11) w1 fun t12 w =>
  br t12 (fun _ =>
  mv (x1 6) fun t15 =>
  mv t15 fun t7 =>
  lp [t7] w fun I2 μ2 => ∀ (x2 : Env) (w2 : World), I2 [x2 7] w2 →
  dr w2.drew fun S1 =>
  mv (x2 7) fun t16 =>
  mv a1 fun t17 =>
  tk Try.prog S1 (bin .gtr 3 (.tmp 16) (.tmp 17) t16 t17) fun t18 =>
  mv t18 fun t19 =>
  gdT t19 true (fun k1 => mv a0 k1) fun t20 =>
  gdT t19 true (fun k2 => mv (x2 7) k2) fun t21 =>
  gdT t19 true (fun k3 => tk Try.prog S1 (Instr.indexAt 53 t20 t21) k3) fun t22 =>
  gdT t19 true (fun k4 => tk Try.prog S1 (Instr.loadAt 9 t22) k4) fun t23 =>
  gdT t19 true (fun k5 => mv a0 k5) fun t24 =>
  gdT t19 true (fun k6 => mv (x2 7) k6) fun t25 =>
  gdT t19 true (fun k7 => tk Try.prog S1 (bin .sub 3 (.tmp 25) (.const (.int .i64 1)) t25 (.int .i64 1)) k7) fun t26 =>
  gdT t19 true (fun k8 => tk Try.prog S1 (Instr.indexAt 53 t24 t26) k8) fun t27 =>
  gdT t19 true (fun k9 => tk Try.prog S1 (Instr.loadAt 9 t27) k9) fun t28 =>
  gd t19 true (fun k10 => C Try.prog N.cmp_Less_string #[t23, t28] w2.drew k10) w2.drew fun t29 w =>
  S1 w ∧
  pk t19 t29 (.bool false) fun t30 =>
  br t30 (fun _ =>
  dr w.drew fun S2 =>
  mv a0 fun t33 =>
  mv (x2 7) fun t34 =>
  mv a0 fun t35 =>
  mv (x2 7) fun t36 =>
  tk Try.prog S2 (bin .sub 3 (.tmp 36) (.const (.int .i64 1)) t36 (.int .i64 1)) fun t37 =>
  mv a0 fun t38 =>
  mv (x2 7) fun t39 =>
  tk Try.prog S2 (bin .sub 3 (.tmp 39) (.const (.int .i64 1)) t39 (.int .i64 1)) fun t40 =>
  tk Try.prog S2 (Instr.indexAt 53 t38 t40) fun t41 =>
  tk Try.prog S2 (Instr.loadAt 9 t41) fun t42 =>
  mv a0 fun t43 =>
  mv (x2 7) fun t44 =>
  tk Try.prog S2 (Instr.indexAt 53 t43 t44) fun t45 =>
  tk Try.prog S2 (Instr.loadAt 9 t45) fun t46 =>
  tk Try.prog S2 (Instr.indexAt 53 t33 t34) fun t47 =>
  o0 Try.prog (Instr.storeAt 9 t47 t42) w.drew fun _ w =>
  S2 w ∧
  tk Try.prog S2 (Instr.indexAt 53 t35 t37) fun t48 =>
  o0 Try.prog (Instr.storeAt 9 t48 t46) w fun _ w =>
  mv (x2 7) fun t31 =>
  o1 Try.prog (bin .sub 3 (.tmp 31) (.const (.int .i64 1)) t31 (.int .i64 1)) w fun t32 w =>
  mv t32 fun t7_1 =>
  I2 [t7_1] w ∧ μ2 [t7_1] w < μ2 [x2 7] w2) (fun _ =>
  mv (x1 6) fun t13 =>
  o1 Try.prog (bin .add 3 (.tmp 13) (.const (.int .i64 1)) t13 (.int .i64 1)) w fun t14 w =>
  mv t14 fun t6_1 =>
  I1 [t6_1, (x2 7)] w ∧ μ1 [t6_1, (x2 7)] w < μ1 [x1 6, x1 7] w1)) (fun _ =>
  k (.tuple #[]) w)
theorem C.slices_insertionSortOrdered_string {k : Value → World → Prop} {a0 a1 a2 : Value} {w : World} (h : F.slices_insertionSortOrdered_string k a0 a1 a2 w) : C Try.prog N.slices_insertionSortOrdered_string #[a0, a1, a2] w k :=
  den_calls (H := { moves := [(4, (.take 0 (.take 1 (.take 2 (.take 3 (.take 4 (.take 5 (.take 6 (.take 7 (.take 8 (.take 9 (.take 10 (.take 11 (.take 12 (.force 13 (.take 14 .fin)))))))))))))))), (6, (.take 0 (.take 1 (.take 2 (.take 3 (.take 4 (.take 5 (.take 6 (.take 7 (.take 8 (.take 9 (.take 10 (.take 11 (.take 12 (.take 13 (.take 14 (.force 15 (.take 16 (.last 17)))))))))))))))))))], vars := [6, 7] }) (args := [a0, a1, a2]) mixed Try.func33 (by kernel_rfl) (by kernel_rfl) (by kernel_rfl) h

-- slices.heapSortOrdered[string]
def F.slices_heapSortOrdered_string (k : Value → World → Prop) (a0 a1 a2 : Value) (w : World) : Prop :=
  mv a1 fun t11 =>
  mv t11 fun t6 =>
  mv (.int .i64 0) fun t7 =>
  mv a2 fun t12 =>
  mv a1 fun t13 =>
  o1 Try.prog (bin .sub 3 (.tmp 12) (.tmp 13) t12 t13) w fun t14 w =>
  mv t14 fun t8 =>
  mv t8 fun t15 =>
  o1 Try.prog (bin .sub 3 (.tmp 15) (.const (.int .i64 1)) t15 (.int .i64 1)) w fun t16 w =>
  o1 Try.prog (bin .quo 3 (.tmp 16) (.const (.int .i64 2)) t16 (.int .i64 2)) w fun t17 w =>
  mv t17 fun t9 =>
  lp [t9] w fun I1 μ1 => ∀ (x1 : Env) (w1 : World), I1 [x1 9] w1 →
  mv (x1 9) fun t18 =>
  o1 Try.prog (bin .geq 3 (.tmp 18) (.const (.int .i64 0)) t18 (.int .i64 0)) w1 fun t19 w =>
  br t19 (fun _ =>
  mv a0 fun t22 =>
  mv (x1 9) fun t23 =>
  mv t8 fun t24 =>
  mv t6 fun t25 =>
  C Try.prog N.slices_siftDownOrdered_string #[t22, t23, t24, t25] w fun t26 w =>
  mv (x1 9) fun t20 =>
  o1 Try.prog (bin .sub 3 (.tmp 20) (.const (.int .i64 1)) t20 (.int .i64 1)) w fun t21 w =>
  mv t21 fun t9_1 =>
  I1 [t9_1] w ∧ μ1 [t9_1] w < μ1 [x1 9] w1) (fun _ =>
  mv t8 fun t27 =>
  o1 Try.prog (bin .sub 3 (.tmp 27) (.const (.int .i64 1)) t27 (.int .i64 1)) w fun t28 w =>
  mv t28 fun t10 =>
  lp [t10] w fun I2 μ2 => ∀ (x2 : Env) (w2 : World), I2 [x2 10] w2 →
  mv (x2 10) fun t29 =>
  o1 Try.prog (bin .geq 3 (.tmp 29) (.const (.int .i64 0)) t29 (.int .i64 0)) w2 fun t30 w =>
  br t30 (fun _ =>
  dr w.drew fun S1 =>
  mv a0 fun t33 =>
  mv t6 fun t34 =>
  mv a0 fun t35 =>
  mv t6 fun t36 =>
  mv (x2 10) fun t37 =>
  tk Try.prog S1 (bin .add 3 (.tmp 36) (.tmp 37) t36 t37) fun t38 =>
  mv a0 fun t39 =>
  mv t6 fun t40 =>
  mv (x2 10) fun t41 =>
  tk Try.prog S1 (bin .add 3 (.tmp 40) (.tmp 41) t40 t41) fun t42 =>
  tk Try.prog S1 (Instr.indexAt 53 t39 t42) fun t43 =>
  tk Try.prog S1 (Instr.loadAt 9 t43) fun t44 =>
  mv a0 fun t45 =>
  mv t6 fun t46 =>
  tk Try.prog S1 (Instr.indexAt 53 t45 t46) fun t47 =>
  tk Try.prog S1 (Instr.loadAt 9 t47) fun t48 =>
  tk Try.prog S1 (Instr.indexAt 53 t33 t34) fun t49 =>
  o0 Try.prog (Instr.storeAt 9 t49 t44) w.drew fun _ w =>
  S1 w ∧
  tk Try.prog S1 (Instr.indexAt 53 t35 t38) fun t50 =>
  o0 Try.prog (Instr.storeAt 9 t50 t48) w fun _ w =>
  mv a0 fun t51 =>
  mv t7 fun t52 =>
  mv (x2 10) fun t53 =>
  mv t6 fun t54 =>
  C Try.prog N.slices_siftDownOrdered_string #[t51, t52, t53, t54] w fun t55 w =>
  mv (x2 10) fun t31 =>
  o1 Try.prog (bin .sub 3 (.tmp 31) (.const (.int .i64 1)) t31 (.int .i64 1)) w fun t32 w =>
  mv t32 fun t10_1 =>
  I2 [t10_1] w ∧ μ2 [t10_1] w < μ2 [x2 10] w2) (fun _ =>
  k (.tuple #[]) w))
theorem C.slices_heapSortOrdered_string {k : Value → World → Prop} {a0 a1 a2 : Value} {w : World} (h : F.slices_heapSortOrdered_string k a0 a1 a2 w) : C Try.prog N.slices_heapSortOrdered_string #[a0, a1, a2] w k :=
  den_calls (H := { moves := [(10, (.take 0 (.take 1 (.take 2 (.take 3 (.take 4 (.take 5 (.take 6 (.take 7 (.take 8 (.take 9 (.take 10 (.take 11 (.take 12 (.take 13 (.take 14 (.take 15 (.take 16 (.force 17 (.take 18 (.last 19)))))))))))))))))))))], vars := [6, 7, 8, 9, 10] }) (args := [a0, a1, a2]) mixed Try.func34 (by kernel_rfl) (by kernel_rfl) (by kernel_rfl) h

end Go.Proofs.Ytiaiglgfangedaa
