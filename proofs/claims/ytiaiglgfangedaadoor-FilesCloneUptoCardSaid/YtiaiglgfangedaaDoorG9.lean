/- The document's files: Change. -/
import Derived.Test.YtiaiglgfangedaaDoorG8
set_option linter.unusedVariables false
set_option linter.unusedSimpArgs false
set_option linter.unusedSectionVars false
namespace Go.Proofs.YtiaiglgfangedaaDoor
open Go Go.Isk Go.RowKit
set_option maxRecDepth 20000
def F.isthmusref04_Change_r1 (k : Value → World → Prop) (a1 a2 a3 a4 t5 t10 t12 t13 : Value) (w : World) : Prop :=
  mv t13 fun t31 =>
  o1 Tryd.prog (bin .neq 3 (.tmp 31) (.const (.int .i64 0)) t31 (.int .i64 0)) w fun t32 w =>
  br t32 (fun _ =>
  o1 Tryd.prog (Instr.loadAt 42 t5) w fun t33 w =>
  mv t13 fun t34 =>
  o0 Tryd.prog (Instr.storeAt 42 t10 t33) w fun _ w =>
  mv t34 fun t11_2 =>
  rc Tryd.prog 42 t10 w fun r0 =>
  k (.tuple #[r0, t11_2]) w) (fun _ =>
  o1 Tryd.prog (Instr.fieldAt 80 t12 1) w fun t35 w =>
  o1 Tryd.prog (Instr.loadAt 9 t35) w fun t36 w =>
  o1 Tryd.prog (Instr.fieldAt 80 t12 2) w fun t37 w =>
  o1 Tryd.prog (Instr.loadAt 9 t37) w fun t38 w =>
  o1 Tryd.prog (bin .add 9 (.tmp 36) (.tmp 38) t36 t38) w fun t39 w =>
  mv t39 fun t14 =>
  mv a1 fun t40 =>
  o1 Tryd.prog (bin .eql 3 (.tmp 40) (.const (.int .i64 3)) t40 (.int .i64 3)) w fun t41 w =>
  mv t41 fun t42 =>
  gd t42 true (fun k4 => mv a4 fun v => k4 v w) w fun t43 w =>
  gd t42 true (fun k5 => o1 Tryd.prog (bin .lss 3 (.tmp 43) (.const (.int .i64 0)) t43 (.int .i64 0)) w k5) w fun t44 w =>
  gd t42 true (fun k6 => mv t44 fun v => k6 v w) w fun t45 w =>
  gd t45 false (fun k7 => mv a4 fun v => k7 v w) w fun t46 w =>
  gd t45 false (fun k8 => mv t14 fun v => k8 v w) w fun t47 w =>
  gd t45 false (fun k9 => o1 Tryd.prog (Builtin.len_ #[9] 3 #[t47]) w k9) w fun t48 w =>
  gd t45 false (fun k10 => o1 Tryd.prog (bin .gtr 3 (.tmp 46) (.tmp 48) t46 t48) w k10) w fun t49 w =>
  gd t42 true (fun k11 => pk t45 (.bool true) t49 fun v => k11 v w) w fun t50 w =>
  pk t42 t50 (.bool false) fun t51 =>
  br t51 (fun _ =>
  o1 Tryd.prog (Instr.loadAt 42 t5) w fun t52 w =>
  o0 Tryd.prog (Instr.storeAt 42 t10 t52) w fun _ w =>
  mv (.int .i64 1) fun t11_3 =>
  rc Tryd.prog 42 t10 w fun r0 =>
  k (.tuple #[r0, t11_3]) w) (fun _ =>
  o1 Tryd.prog (Instr.loadAt 42 t5) w fun t54 w =>
  C Tryd.prog N.isthmusref04_step #[t54] w fun t55 w =>
  mv t55 fun t53 =>
  o1 Tryd.prog (Instr.extract t53 0) w fun t56 w =>
  o1 Tryd.prog (Instr.extract t53 1) w fun t57 w =>
  o1 Tryd.prog (Instr.alloc 42 true (.tuple #[])) w fun t15 w =>
  o0 Tryd.prog (Instr.storeAt 42 t15 t56) w fun _ w =>
  mv t57 fun t16 =>
  mv t16 fun t58 =>
  br t58 (fun _ =>
  o1 Tryd.prog (Instr.loadAt 42 t15) w fun t59 w =>
  o0 Tryd.prog (Instr.storeAt 42 t10 t59) w fun _ w =>
  mv (.int .i64 13) fun t11_4 =>
  rc Tryd.prog 42 t10 w fun r0 =>
  k (.tuple #[r0, t11_4]) w) (fun _ =>
  mv a1 fun t60 =>
  o1 Tryd.prog (bin .eql 3 (.tmp 60) (.const (.int .i64 0)) t60 (.int .i64 0)) w fun t62 w =>
  mv t62 fun t61 =>
  br t61 (fun _ =>
  o1 Tryd.prog (Instr.loadAt 42 t15) w fun t63 w =>
  mv a2 fun t64 =>
  mv t14 fun t65 =>
  o1 Tryd.prog (Instr.build 80 #[(0, t64), (1, t65), (2, .string ⟨#[]⟩)]) w fun t66 w =>
  C Tryd.prog N.isthmusref04_set #[t63, t66] w fun t67 w =>
  o0 Tryd.prog (Instr.storeAt 42 t10 t67) w fun _ w =>
  mv (.int .i64 0) fun t11_5 =>
  rc Tryd.prog 42 t10 w fun r0 =>
  k (.tuple #[r0, t11_5]) w) (fun _ =>
  o1 Tryd.prog (bin .eql 3 (.tmp 60) (.const (.int .i64 1)) t60 (.int .i64 1)) w fun t69 w =>
  mv t69 fun t68 =>
  br t68 (fun _ =>
  dr w.drew fun S1 =>
  tk Tryd.prog S1 (Instr.loadAt 42 t15) fun t70 =>
  mv a2 fun t71 =>
  mv a3 fun t73 =>
  tk Tryd.prog S1 (Instr.fieldAt 80 t12 1) fun t74 =>
  tk Tryd.prog S1 (Instr.loadAt 9 t74) fun t75 =>
  tk Tryd.prog S1 (Instr.fieldAt 80 t12 2) fun t76 =>
  tk Tryd.prog S1 (Instr.loadAt 9 t76) fun t77 =>
  tk Tryd.prog S1 (Instr.build 80 #[(0, t73), (1, t75), (2, t77)]) fun t78 =>
  C Tryd.prog N.isthmusref04_drop #[t70, t71] w.drew fun t72 w =>
  S1 w ∧
  C Tryd.prog N.isthmusref04_set #[t72, t78] w fun t79 w =>
  S1 w ∧
  o0 Tryd.prog (Instr.storeAt 42 t10 t79) w fun _ w =>
  S1 w ∧
  mv (.int .i64 0) fun t11_6 =>
  rc Tryd.prog 42 t10 w fun r0 =>
  k (.tuple #[r0, t11_6]) w) (fun _ =>
  o1 Tryd.prog (bin .eql 3 (.tmp 60) (.const (.int .i64 2)) t60 (.int .i64 2)) w fun t81 w =>
  mv t81 fun t80 =>
  br t80 (fun _ =>
  o1 Tryd.prog (Instr.loadAt 42 t15) w fun t82 w =>
  mv a2 fun t83 =>
  C Tryd.prog N.isthmusref04_drop #[t82, t83] w fun t84 w =>
  o0 Tryd.prog (Instr.storeAt 42 t10 t84) w fun _ w =>
  mv (.int .i64 0) fun t11_7 =>
  rc Tryd.prog 42 t10 w fun r0 =>
  k (.tuple #[r0, t11_7]) w) (fun _ =>
  dr w.drew fun S2 =>
  tk Tryd.prog S2 (Instr.loadAt 42 t15) fun t85 =>
  mv a2 fun t86 =>
  mv t14 fun t87 =>
  mv a4 fun t88 =>
  tk Tryd.prog S2 (Instr.sliceAt 9 t87 none (some t88) none) fun t89 =>
  tk Tryd.prog S2 (Instr.build 80 #[(0, t86), (1, t89), (2, .string ⟨#[]⟩)]) fun t90 =>
  C Tryd.prog N.isthmusref04_set #[t85, t90] w.drew fun t91 w =>
  S2 w ∧
  o0 Tryd.prog (Instr.storeAt 42 t10 t91) w fun _ w =>
  S2 w ∧
  mv (.int .i64 0) fun t11_8 =>
  rc Tryd.prog 42 t10 w fun r0 =>
  k (.tuple #[r0, t11_8]) w))))))
def F.isthmusref04_Change_r2 (k : Value → World → Prop) (a1 a2 a3 a4 t5 t10 t12 : Value) (w : World) : Prop :=
  o1 Tryd.prog (Instr.fieldAt 80 t12 1) w fun t35 w =>
  o1 Tryd.prog (Instr.loadAt 9 t35) w fun t36 w =>
  o1 Tryd.prog (Instr.fieldAt 80 t12 2) w fun t37 w =>
  o1 Tryd.prog (Instr.loadAt 9 t37) w fun t38 w =>
  o1 Tryd.prog (bin .add 9 (.tmp 36) (.tmp 38) t36 t38) w fun t39 w =>
  mv t39 fun t14 =>
  mv a1 fun t40 =>
  o1 Tryd.prog (bin .eql 3 (.tmp 40) (.const (.int .i64 3)) t40 (.int .i64 3)) w fun t41 w =>
  mv t41 fun t42 =>
  gd t42 true (fun k4 => mv a4 fun v => k4 v w) w fun t43 w =>
  gd t42 true (fun k5 => o1 Tryd.prog (bin .lss 3 (.tmp 43) (.const (.int .i64 0)) t43 (.int .i64 0)) w k5) w fun t44 w =>
  gd t42 true (fun k6 => mv t44 fun v => k6 v w) w fun t45 w =>
  gd t45 false (fun k7 => mv a4 fun v => k7 v w) w fun t46 w =>
  gd t45 false (fun k8 => mv t14 fun v => k8 v w) w fun t47 w =>
  gd t45 false (fun k9 => o1 Tryd.prog (Builtin.len_ #[9] 3 #[t47]) w k9) w fun t48 w =>
  gd t45 false (fun k10 => o1 Tryd.prog (bin .gtr 3 (.tmp 46) (.tmp 48) t46 t48) w k10) w fun t49 w =>
  gd t42 true (fun k11 => pk t45 (.bool true) t49 fun v => k11 v w) w fun t50 w =>
  pk t42 t50 (.bool false) fun t51 =>
  br t51 (fun _ =>
  o1 Tryd.prog (Instr.loadAt 42 t5) w fun t52 w =>
  o0 Tryd.prog (Instr.storeAt 42 t10 t52) w fun _ w =>
  mv (.int .i64 1) fun t11_3 =>
  rc Tryd.prog 42 t10 w fun r0 =>
  k (.tuple #[r0, t11_3]) w) (fun _ =>
  o1 Tryd.prog (Instr.loadAt 42 t5) w fun t54 w =>
  C Tryd.prog N.isthmusref04_step #[t54] w fun t55 w =>
  mv t55 fun t53 =>
  o1 Tryd.prog (Instr.extract t53 0) w fun t56 w =>
  o1 Tryd.prog (Instr.extract t53 1) w fun t57 w =>
  o1 Tryd.prog (Instr.alloc 42 true (.tuple #[])) w fun t15 w =>
  o0 Tryd.prog (Instr.storeAt 42 t15 t56) w fun _ w =>
  mv t57 fun t16 =>
  mv t16 fun t58 =>
  br t58 (fun _ =>
  o1 Tryd.prog (Instr.loadAt 42 t15) w fun t59 w =>
  o0 Tryd.prog (Instr.storeAt 42 t10 t59) w fun _ w =>
  mv (.int .i64 13) fun t11_4 =>
  rc Tryd.prog 42 t10 w fun r0 =>
  k (.tuple #[r0, t11_4]) w) (fun _ =>
  mv a1 fun t60 =>
  o1 Tryd.prog (bin .eql 3 (.tmp 60) (.const (.int .i64 0)) t60 (.int .i64 0)) w fun t62 w =>
  mv t62 fun t61 =>
  br t61 (fun _ =>
  o1 Tryd.prog (Instr.loadAt 42 t15) w fun t63 w =>
  mv a2 fun t64 =>
  mv t14 fun t65 =>
  o1 Tryd.prog (Instr.build 80 #[(0, t64), (1, t65), (2, .string ⟨#[]⟩)]) w fun t66 w =>
  C Tryd.prog N.isthmusref04_set #[t63, t66] w fun t67 w =>
  o0 Tryd.prog (Instr.storeAt 42 t10 t67) w fun _ w =>
  mv (.int .i64 0) fun t11_5 =>
  rc Tryd.prog 42 t10 w fun r0 =>
  k (.tuple #[r0, t11_5]) w) (fun _ =>
  o1 Tryd.prog (bin .eql 3 (.tmp 60) (.const (.int .i64 1)) t60 (.int .i64 1)) w fun t69 w =>
  mv t69 fun t68 =>
  br t68 (fun _ =>
  dr w.drew fun S1 =>
  tk Tryd.prog S1 (Instr.loadAt 42 t15) fun t70 =>
  mv a2 fun t71 =>
  mv a3 fun t73 =>
  tk Tryd.prog S1 (Instr.fieldAt 80 t12 1) fun t74 =>
  tk Tryd.prog S1 (Instr.loadAt 9 t74) fun t75 =>
  tk Tryd.prog S1 (Instr.fieldAt 80 t12 2) fun t76 =>
  tk Tryd.prog S1 (Instr.loadAt 9 t76) fun t77 =>
  tk Tryd.prog S1 (Instr.build 80 #[(0, t73), (1, t75), (2, t77)]) fun t78 =>
  C Tryd.prog N.isthmusref04_drop #[t70, t71] w.drew fun t72 w =>
  S1 w ∧
  C Tryd.prog N.isthmusref04_set #[t72, t78] w fun t79 w =>
  S1 w ∧
  o0 Tryd.prog (Instr.storeAt 42 t10 t79) w fun _ w =>
  S1 w ∧
  mv (.int .i64 0) fun t11_6 =>
  rc Tryd.prog 42 t10 w fun r0 =>
  k (.tuple #[r0, t11_6]) w) (fun _ =>
  o1 Tryd.prog (bin .eql 3 (.tmp 60) (.const (.int .i64 2)) t60 (.int .i64 2)) w fun t81 w =>
  mv t81 fun t80 =>
  br t80 (fun _ =>
  o1 Tryd.prog (Instr.loadAt 42 t15) w fun t82 w =>
  mv a2 fun t83 =>
  C Tryd.prog N.isthmusref04_drop #[t82, t83] w fun t84 w =>
  o0 Tryd.prog (Instr.storeAt 42 t10 t84) w fun _ w =>
  mv (.int .i64 0) fun t11_7 =>
  rc Tryd.prog 42 t10 w fun r0 =>
  k (.tuple #[r0, t11_7]) w) (fun _ =>
  dr w.drew fun S2 =>
  tk Tryd.prog S2 (Instr.loadAt 42 t15) fun t85 =>
  mv a2 fun t86 =>
  mv t14 fun t87 =>
  mv a4 fun t88 =>
  tk Tryd.prog S2 (Instr.sliceAt 9 t87 none (some t88) none) fun t89 =>
  tk Tryd.prog S2 (Instr.build 80 #[(0, t86), (1, t89), (2, .string ⟨#[]⟩)]) fun t90 =>
  C Tryd.prog N.isthmusref04_set #[t85, t90] w.drew fun t91 w =>
  S2 w ∧
  o0 Tryd.prog (Instr.storeAt 42 t10 t91) w fun _ w =>
  S2 w ∧
  mv (.int .i64 0) fun t11_8 =>
  rc Tryd.prog 42 t10 w fun r0 =>
  k (.tuple #[r0, t11_8]) w)))))
def F.isthmusref04_Change_r3 (k : Value → World → Prop) (a1 a2 a3 a4 t5 t10 t12 t14 : Value) (w : World) : Prop :=
  o1 Tryd.prog (Instr.loadAt 42 t5) w fun t54 w =>
  C Tryd.prog N.isthmusref04_step #[t54] w fun t55 w =>
  mv t55 fun t53 =>
  o1 Tryd.prog (Instr.extract t53 0) w fun t56 w =>
  o1 Tryd.prog (Instr.extract t53 1) w fun t57 w =>
  o1 Tryd.prog (Instr.alloc 42 true (.tuple #[])) w fun t15 w =>
  o0 Tryd.prog (Instr.storeAt 42 t15 t56) w fun _ w =>
  mv t57 fun t16 =>
  mv t16 fun t58 =>
  br t58 (fun _ =>
  o1 Tryd.prog (Instr.loadAt 42 t15) w fun t59 w =>
  o0 Tryd.prog (Instr.storeAt 42 t10 t59) w fun _ w =>
  mv (.int .i64 13) fun t11_4 =>
  rc Tryd.prog 42 t10 w fun r0 =>
  k (.tuple #[r0, t11_4]) w) (fun _ =>
  mv a1 fun t60 =>
  o1 Tryd.prog (bin .eql 3 (.tmp 60) (.const (.int .i64 0)) t60 (.int .i64 0)) w fun t62 w =>
  mv t62 fun t61 =>
  br t61 (fun _ =>
  o1 Tryd.prog (Instr.loadAt 42 t15) w fun t63 w =>
  mv a2 fun t64 =>
  mv t14 fun t65 =>
  o1 Tryd.prog (Instr.build 80 #[(0, t64), (1, t65), (2, .string ⟨#[]⟩)]) w fun t66 w =>
  C Tryd.prog N.isthmusref04_set #[t63, t66] w fun t67 w =>
  o0 Tryd.prog (Instr.storeAt 42 t10 t67) w fun _ w =>
  mv (.int .i64 0) fun t11_5 =>
  rc Tryd.prog 42 t10 w fun r0 =>
  k (.tuple #[r0, t11_5]) w) (fun _ =>
  o1 Tryd.prog (bin .eql 3 (.tmp 60) (.const (.int .i64 1)) t60 (.int .i64 1)) w fun t69 w =>
  mv t69 fun t68 =>
  br t68 (fun _ =>
  dr w.drew fun S1 =>
  tk Tryd.prog S1 (Instr.loadAt 42 t15) fun t70 =>
  mv a2 fun t71 =>
  mv a3 fun t73 =>
  tk Tryd.prog S1 (Instr.fieldAt 80 t12 1) fun t74 =>
  tk Tryd.prog S1 (Instr.loadAt 9 t74) fun t75 =>
  tk Tryd.prog S1 (Instr.fieldAt 80 t12 2) fun t76 =>
  tk Tryd.prog S1 (Instr.loadAt 9 t76) fun t77 =>
  tk Tryd.prog S1 (Instr.build 80 #[(0, t73), (1, t75), (2, t77)]) fun t78 =>
  C Tryd.prog N.isthmusref04_drop #[t70, t71] w.drew fun t72 w =>
  S1 w ∧
  C Tryd.prog N.isthmusref04_set #[t72, t78] w fun t79 w =>
  S1 w ∧
  o0 Tryd.prog (Instr.storeAt 42 t10 t79) w fun _ w =>
  S1 w ∧
  mv (.int .i64 0) fun t11_6 =>
  rc Tryd.prog 42 t10 w fun r0 =>
  k (.tuple #[r0, t11_6]) w) (fun _ =>
  o1 Tryd.prog (bin .eql 3 (.tmp 60) (.const (.int .i64 2)) t60 (.int .i64 2)) w fun t81 w =>
  mv t81 fun t80 =>
  br t80 (fun _ =>
  o1 Tryd.prog (Instr.loadAt 42 t15) w fun t82 w =>
  mv a2 fun t83 =>
  C Tryd.prog N.isthmusref04_drop #[t82, t83] w fun t84 w =>
  o0 Tryd.prog (Instr.storeAt 42 t10 t84) w fun _ w =>
  mv (.int .i64 0) fun t11_7 =>
  rc Tryd.prog 42 t10 w fun r0 =>
  k (.tuple #[r0, t11_7]) w) (fun _ =>
  dr w.drew fun S2 =>
  tk Tryd.prog S2 (Instr.loadAt 42 t15) fun t85 =>
  mv a2 fun t86 =>
  mv t14 fun t87 =>
  mv a4 fun t88 =>
  tk Tryd.prog S2 (Instr.sliceAt 9 t87 none (some t88) none) fun t89 =>
  tk Tryd.prog S2 (Instr.build 80 #[(0, t86), (1, t89), (2, .string ⟨#[]⟩)]) fun t90 =>
  C Tryd.prog N.isthmusref04_set #[t85, t90] w.drew fun t91 w =>
  S2 w ∧
  o0 Tryd.prog (Instr.storeAt 42 t10 t91) w fun _ w =>
  S2 w ∧
  mv (.int .i64 0) fun t11_8 =>
  rc Tryd.prog 42 t10 w fun r0 =>
  k (.tuple #[r0, t11_8]) w))))
def F.isthmusref04_Change_r4 (k : Value → World → Prop) (a1 a2 a3 a4 t10 t12 t14 t15 : Value) (w : World) : Prop :=
  mv a1 fun t60 =>
  o1 Tryd.prog (bin .eql 3 (.tmp 60) (.const (.int .i64 0)) t60 (.int .i64 0)) w fun t62 w =>
  mv t62 fun t61 =>
  br t61 (fun _ =>
  o1 Tryd.prog (Instr.loadAt 42 t15) w fun t63 w =>
  mv a2 fun t64 =>
  mv t14 fun t65 =>
  o1 Tryd.prog (Instr.build 80 #[(0, t64), (1, t65), (2, .string ⟨#[]⟩)]) w fun t66 w =>
  C Tryd.prog N.isthmusref04_set #[t63, t66] w fun t67 w =>
  o0 Tryd.prog (Instr.storeAt 42 t10 t67) w fun _ w =>
  mv (.int .i64 0) fun t11_5 =>
  rc Tryd.prog 42 t10 w fun r0 =>
  k (.tuple #[r0, t11_5]) w) (fun _ =>
  o1 Tryd.prog (bin .eql 3 (.tmp 60) (.const (.int .i64 1)) t60 (.int .i64 1)) w fun t69 w =>
  mv t69 fun t68 =>
  br t68 (fun _ =>
  dr w.drew fun S1 =>
  tk Tryd.prog S1 (Instr.loadAt 42 t15) fun t70 =>
  mv a2 fun t71 =>
  mv a3 fun t73 =>
  tk Tryd.prog S1 (Instr.fieldAt 80 t12 1) fun t74 =>
  tk Tryd.prog S1 (Instr.loadAt 9 t74) fun t75 =>
  tk Tryd.prog S1 (Instr.fieldAt 80 t12 2) fun t76 =>
  tk Tryd.prog S1 (Instr.loadAt 9 t76) fun t77 =>
  tk Tryd.prog S1 (Instr.build 80 #[(0, t73), (1, t75), (2, t77)]) fun t78 =>
  C Tryd.prog N.isthmusref04_drop #[t70, t71] w.drew fun t72 w =>
  S1 w ∧
  C Tryd.prog N.isthmusref04_set #[t72, t78] w fun t79 w =>
  S1 w ∧
  o0 Tryd.prog (Instr.storeAt 42 t10 t79) w fun _ w =>
  S1 w ∧
  mv (.int .i64 0) fun t11_6 =>
  rc Tryd.prog 42 t10 w fun r0 =>
  k (.tuple #[r0, t11_6]) w) (fun _ =>
  o1 Tryd.prog (bin .eql 3 (.tmp 60) (.const (.int .i64 2)) t60 (.int .i64 2)) w fun t81 w =>
  mv t81 fun t80 =>
  br t80 (fun _ =>
  o1 Tryd.prog (Instr.loadAt 42 t15) w fun t82 w =>
  mv a2 fun t83 =>
  C Tryd.prog N.isthmusref04_drop #[t82, t83] w fun t84 w =>
  o0 Tryd.prog (Instr.storeAt 42 t10 t84) w fun _ w =>
  mv (.int .i64 0) fun t11_7 =>
  rc Tryd.prog 42 t10 w fun r0 =>
  k (.tuple #[r0, t11_7]) w) (fun _ =>
  dr w.drew fun S2 =>
  tk Tryd.prog S2 (Instr.loadAt 42 t15) fun t85 =>
  mv a2 fun t86 =>
  mv t14 fun t87 =>
  mv a4 fun t88 =>
  tk Tryd.prog S2 (Instr.sliceAt 9 t87 none (some t88) none) fun t89 =>
  tk Tryd.prog S2 (Instr.build 80 #[(0, t86), (1, t89), (2, .string ⟨#[]⟩)]) fun t90 =>
  C Tryd.prog N.isthmusref04_set #[t85, t90] w.drew fun t91 w =>
  S2 w ∧
  o0 Tryd.prog (Instr.storeAt 42 t10 t91) w fun _ w =>
  S2 w ∧
  mv (.int .i64 0) fun t11_8 =>
  rc Tryd.prog 42 t10 w fun r0 =>
  k (.tuple #[r0, t11_8]) w)))
def ch4 (q : RFS) (x : RFile) (kind : Int) (n now : Bytes) (k : Int) : RFS × Int :=
  if kind = 0 then (setF q ⟨n, x.safe ++ x.loose, []⟩, 0)
  else if kind = 1 then (setF (dropF q n) ⟨now, x.safe, x.loose⟩, 0)
  else if kind = 2 then (dropF q n, 0)
  else (setF q ⟨n, (x.safe ++ x.loose).take k.toNat, []⟩, 0)
def ch3 (r : RFS) (x : RFile) (kind : Int) (n now : Bytes) (k : Int) : RFS × Int := if (stepR r).2 = true then ((stepR r).1, 13) else ch4 (stepR r).1 x kind n now k
def ch2 (r : RFS) (x : RFile) (kind : Int) (n now : Bytes) (k : Int) : RFS × Int := if kind = 3 ∧ (k < 0 ∨ ((x.safe ++ x.loose).length : Int) < k) then (r, 1) else ch3 r x kind n now k
def ch1 (r : RFS) (x : RFile) (e kind : Int) (n now : Bytes) (k : Int) : RFS × Int := if e ≠ 0 then (r, e) else ch2 r x kind n now k
theorem changeR_eq (r : RFS) (kind : Int) (n now : Bytes) (k : Int) : changeR r kind n now k = if kind = 1 ∧ namedF now = false then (r, 1) else ch1 r (getR r n).1 (getR r n).2 kind n now k := rfl
section
variable {b : Base} {w : World} {L R M : List It} {g g2 g3 g4 g5 g10 g12 g15 : Nat} {v sv : Value} {s n now bts : Bytes} {cs ds : List Value} {r q Q : RFS} {l t : List RFile} {x y : RFile} {kind kk E : Int} {e : Value}
theorem rfs_put (hs : Isk.Sep b w ((rfsF ds Q).it :: M)) (hr : Has M (resI Tryd.prog g4 T.isthmusref04_FS) R) (hL : Sbl L R) (he : e = .int .i64 E) :
    o0 Tryd.prog (Instr.storeAt T.isthmusref04_FS (.pointer (some ⟨g4, 0, none⟩)) (.agg ds.toArray)) w fun _ w => mv e fun e' =>
      rc Tryd.prog T.isthmusref04_FS (.pointer (some ⟨g4, 0, none⟩)) w fun r0 => ∃ ds, (Value.tuple #[r0, e']) = .tuple #[.agg ds.toArray, .int .i64 E] ∧ Isk.Sep b w ((rfsF ds Q).it :: L) := by
  obtain ⟨A, c, rfl, hs⟩ := rfs_open hs .hd
  refine sp_setr (ds := rfsV Q (.slice A Q.l.length c)) hs (.tl (.tl hr)) (by kernel_rfl) rfl (rfsV_one Q) fun w hs => mv.mk (sp_rc hs .hd (by kernel_rfl) rfl ?_)
  exact ⟨_, by rw [he], hs.sbl (.drop (.drop (.cons .hd hL)))⟩
theorem change4 {A c} (hs : Isk.Sep b w (blkI g15 T.isthmusref04_FS (rfsV q (.slice A q.l.length c)) :: resI Tryd.prog g10 T.isthmusref04_FS :: (listF rfF 3 (.slice A q.l.length c) q.l).it :: blkI g12 T.isthmusref04_File (rfV x) :: L)) (hl : q.l.length ≤ 64)
    (hxl : x.safe.length + x.loose.length ≤ 16777216) (hk : kind = 0 ∨ kind = 1 ∨ kind = 2 ∨ (kind = 3 ∧ 0 ≤ kk ∧ kk ≤ ((x.safe ++ x.loose).length : Int))) :
    F.isthmusref04_Change_r4 (fun v w' => ∃ ds, v = .tuple #[.agg ds.toArray, .int .i64 (ch4 q x kind n now kk).2] ∧ Isk.Sep b w' ((rfsF ds (ch4 q x kind n now kk).1).it :: L)) (.int .i64 kind) (str n) (str now) (.int .i64 kk) (.pointer (some ⟨g10, 0, none⟩)) (.pointer (some ⟨g12, 0, none⟩)) (str (x.safe ++ x.loose)) (.pointer (some ⟨g15, 0, none⟩)) w := by
  unfold F.isthmusref04_Change_r4
  replace hs := rfs_fact hs (.tl (.tl .hd))
  rcases hk with rfl | rfl | rfl | ⟨rfl, hk0, hk1⟩
  · repeat (first
     | (with_reducible (first | refine st_lens ?_ | refine st_eqls ?_ | refine st_nels ?_ | refine tk_eqls ?_ | refine tk_nels ?_ | refine mv.mk ?_ | refine nk_p ?_ | refine gdT_i ?_ | refine gdT_ft ?_ | refine gdT_tf ?_ | refine gdT_u ?_ | refine gd_u ?_ | refine gd_ft ?_ | refine gd_tf ?_ | refine gd_i ?_ | refine pk_t ?_ | refine pk_f ?_ | refine br_t ?_ | refine br_f ?_ | refine sp_boxa hs fun g w hs => ?_))
     | (with_reducible ((first | apply st_bin | apply st_ext | apply st_len | apply st_un | apply st_conv | apply st_mki | apply st_fld | apply st_cap | apply st_max | apply st_min | apply st_ixv | apply st_mkf); intro k' hk; simp [go_sem, thenR_ok, bin]; refine hk _ _ ?_; clear hk k'))
     | ((with_reducible (first | apply tk_bin | apply tk_ext | apply tk_len | apply tk_un)); (· intro w; simp [go_sem, bin]; rfl))
     | ((with_reducible apply sp_newr hs); (· kernel_rfl); intro g w hs))
    refine sp_loadall hs (.tl .hd) (by kernel_rfl) rfl ?_
    repeat with_reducible refine mv.mk ?_
    refine st_build (cells := (rfV ⟨n, x.safe ++ x.loose, []⟩).toArray) (by kernel_rfl) ?_
    refine cl (isthmusref04_set (y := ⟨n, x.safe ++ x.loose, []⟩) hs .hd (by omega)) ?_
    rintro _ w ⟨ds, rfl, hs⟩
    exact rfs_put hs (.tl (.tl .hd)) (.drop (.drop (.drop (.drop .all)))) rfl
  · repeat (first
     | (with_reducible (first | refine st_lens ?_ | refine st_eqls ?_ | refine st_nels ?_ | refine tk_eqls ?_ | refine tk_nels ?_ | refine mv.mk ?_ | refine nk_p ?_ | refine gdT_i ?_ | refine gdT_ft ?_ | refine gdT_tf ?_ | refine gdT_u ?_ | refine gd_u ?_ | refine gd_ft ?_ | refine gd_tf ?_ | refine gd_i ?_ | refine pk_t ?_ | refine pk_f ?_ | refine br_t ?_ | refine br_f ?_ | refine sp_boxa hs fun g w hs => ?_))
     | (with_reducible ((first | apply st_bin | apply st_ext | apply st_len | apply st_un | apply st_conv | apply st_mki | apply st_fld | apply st_cap | apply st_max | apply st_min | apply st_ixv | apply st_mkf); intro k' hk; simp [go_sem, thenR_ok, bin]; refine hk _ _ ?_; clear hk k'))
     | ((with_reducible (first | apply tk_bin | apply tk_ext | apply tk_len | apply tk_un)); (· intro w; simp [go_sem, bin]; rfl))
     | ((with_reducible apply sp_newr hs); (· kernel_rfl); intro g w hs))
    replace hs := hs.drew
    refine dr_can (R := [blkI g15 T.isthmusref04_FS (rfsV q (.slice A q.l.length c)), blkI g12 T.isthmusref04_File (rfV x)]) hs (.drop (.cons .hd (.drop (.drop (.cons .hd .nil))))) ?_
    refine tk_ldn hid .blk (by kernel_rfl) rfl ?_
    repeat (first
     | (with_reducible refine rfile.a0 ?_)
     | ((with_reducible apply rfile.r0 hs); (· (with_reducible (repeat (first | exact .blk | exact .rng | apply Rng.tl)))))
     | (with_reducible refine rfile.c0 ?_)
     | ((with_reducible apply rfile.e0); (· first | exact hS | exact hid); (· (with_reducible (repeat (first | exact .blk | exact .rng | apply Rng.tl)))))
     | (with_reducible refine rfile.a1 ?_)
     | ((with_reducible apply rfile.r1 hs); (· (with_reducible (repeat (first | exact .blk | exact .rng | apply Rng.tl)))))
     | (with_reducible refine rfile.c1 ?_)
     | ((with_reducible apply rfile.e1); (· first | exact hS | exact hid); (· (with_reducible (repeat (first | exact .blk | exact .rng | apply Rng.tl)))))
     | (with_reducible refine rfile.a2 ?_)
     | ((with_reducible apply rfile.r2 hs); (· (with_reducible (repeat (first | exact .blk | exact .rng | apply Rng.tl)))))
     | (with_reducible refine rfile.c2 ?_)
     | ((with_reducible apply rfile.e2); (· first | exact hS | exact hid); (· (with_reducible (repeat (first | exact .blk | exact .rng | apply Rng.tl)))))
     | (with_reducible (first | refine st_lens ?_ | refine st_eqls ?_ | refine st_nels ?_ | refine tk_eqls ?_ | refine tk_nels ?_ | refine mv.mk ?_ | refine nk_p ?_ | refine gdT_i ?_ | refine gdT_ft ?_ | refine gdT_tf ?_ | refine gdT_u ?_ | refine gd_u ?_ | refine gd_ft ?_ | refine gd_tf ?_ | refine gd_i ?_ | refine pk_t ?_ | refine pk_f ?_ | refine br_t ?_ | refine br_f ?_ | refine sp_boxa hs fun g w hs => ?_))
     | (with_reducible ((first | apply st_bin | apply st_ext | apply st_len | apply st_un | apply st_conv | apply st_mki | apply st_fld | apply st_cap | apply st_max | apply st_min | apply st_ixv | apply st_mkf); intro k' hk; simp [go_sem, thenR_ok, bin]; refine hk _ _ ?_; clear hk k'))
     | ((with_reducible (first | apply tk_bin | apply tk_ext | apply tk_len | apply tk_un)); (· intro w; simp [go_sem, bin]; rfl))
     | ((with_reducible apply sp_newr hs); (· kernel_rfl); intro g w hs))
    refine tk_build (cells := (rfV ⟨now, x.safe, x.loose⟩).toArray) (by kernel_rfl) ?_
    refine cl (isthmusref04_drop (n := n) hs .hd (by omega)) ?_
    rintro _ w ⟨ds, rfl, hs⟩
    refine ⟨hs.mayr (.drop (.drop (.cons .hd (.drop (.drop (.cons .hd .nil)))))), ?_⟩
    refine cl (isthmusref04_set (y := ⟨now, x.safe, x.loose⟩) hs .hd ?_) ?_
    · show (dropR n q.l).length ≤ _
      have h1 : (dropR n q.l).length ≤ q.l.length := by
        rw [dropR_eq]
        split
        · simp; omega
        · exact Nat.le_refl _
      omega
    rintro _ w ⟨ds2, rfl, hs⟩
    refine ⟨hs.mayr (.drop (.drop (.drop (.cons .hd (.drop (.drop (.cons .hd .nil))))))), ?_⟩
    obtain ⟨A2, c2, rfl, hs⟩ := rfs_open hs .hd
    refine sp_setr (ds := rfsV (setF (dropF q n) ⟨now, x.safe, x.loose⟩) (.slice A2 (setF (dropF q n) ⟨now, x.safe, x.loose⟩).l.length c2)) hs (.tl (.tl (.tl (.tl (.tl .hd))))) (by kernel_rfl) rfl (rfsV_one _) fun w hs => ?_
    refine ⟨hs.mayr (.drop (.drop (.drop (.drop (.drop (.cons .hd (.drop (.cons .hd .nil)))))))), ?_⟩
    refine mv.mk (sp_rc hs .hd (by kernel_rfl) rfl ?_)
    exact ⟨_, rfl, hs.sbl (.drop (.drop (.cons .hd (.drop (.drop (.drop (.drop (.drop .all))))))))⟩
  · repeat (first
     | (with_reducible (first | refine st_lens ?_ | refine st_eqls ?_ | refine st_nels ?_ | refine tk_eqls ?_ | refine tk_nels ?_ | refine mv.mk ?_ | refine nk_p ?_ | refine gdT_i ?_ | refine gdT_ft ?_ | refine gdT_tf ?_ | refine gdT_u ?_ | refine gd_u ?_ | refine gd_ft ?_ | refine gd_tf ?_ | refine gd_i ?_ | refine pk_t ?_ | refine pk_f ?_ | refine br_t ?_ | refine br_f ?_ | refine sp_boxa hs fun g w hs => ?_))
     | (with_reducible ((first | apply st_bin | apply st_ext | apply st_len | apply st_un | apply st_conv | apply st_mki | apply st_fld | apply st_cap | apply st_max | apply st_min | apply st_ixv | apply st_mkf); intro k' hk; simp [go_sem, thenR_ok, bin]; refine hk _ _ ?_; clear hk k'))
     | ((with_reducible (first | apply tk_bin | apply tk_ext | apply tk_len | apply tk_un)); (· intro w; simp [go_sem, bin]; rfl))
     | ((with_reducible apply sp_newr hs); (· kernel_rfl); intro g w hs))
    refine sp_loadall hs (.tl .hd) (by kernel_rfl) rfl ?_
    repeat with_reducible refine mv.mk ?_
    refine cl (isthmusref04_drop (n := n) hs .hd (by omega)) ?_
    rintro _ w ⟨ds, rfl, hs⟩
    exact rfs_put hs (.tl (.tl .hd)) (.drop (.drop (.drop (.drop .all)))) rfl
  · repeat (first
     | (with_reducible (first | refine st_lens ?_ | refine st_eqls ?_ | refine st_nels ?_ | refine tk_eqls ?_ | refine tk_nels ?_ | refine mv.mk ?_ | refine nk_p ?_ | refine gdT_i ?_ | refine gdT_ft ?_ | refine gdT_tf ?_ | refine gdT_u ?_ | refine gd_u ?_ | refine gd_ft ?_ | refine gd_tf ?_ | refine gd_i ?_ | refine pk_t ?_ | refine pk_f ?_ | refine br_t ?_ | refine br_f ?_ | refine sp_boxa hs fun g w hs => ?_))
     | (with_reducible ((first | apply st_bin | apply st_ext | apply st_len | apply st_un | apply st_conv | apply st_mki | apply st_fld | apply st_cap | apply st_max | apply st_min | apply st_ixv | apply st_mkf); intro k' hk; simp [go_sem, thenR_ok, bin]; refine hk _ _ ?_; clear hk k'))
     | ((with_reducible (first | apply tk_bin | apply tk_ext | apply tk_len | apply tk_un)); (· intro w; simp [go_sem, bin]; rfl))
     | ((with_reducible apply sp_newr hs); (· kernel_rfl); intro g w hs))
    replace hs := hs.drew
    refine dr_can (R := [blkI g15 T.isthmusref04_FS (rfsV q (.slice A q.l.length c))]) hs (.drop (.cons .hd .nil)) ?_
    refine tk_ldn hid .blk (by kernel_rfl) rfl ?_
    repeat with_reducible refine mv.mk ?_
    obtain ⟨k, rfl⟩ : ∃ k : Nat, kk = k := ⟨kk.toNat, by omega⟩
    refine tk_run (pre_run (by omega)) ?_
    refine tk_build (cells := (rfV ⟨n, (x.safe ++ x.loose).take k, []⟩).toArray) (by kernel_rfl) ?_
    refine cl (isthmusref04_set (y := ⟨n, (x.safe ++ x.loose).take k, []⟩) hs .hd (by omega)) ?_
    rintro _ w ⟨ds2, rfl, hs⟩
    refine ⟨hs.mayr (.drop (.drop (.cons .hd .nil))), ?_⟩
    obtain ⟨A2, c2, rfl, hs⟩ := rfs_open hs .hd
    refine sp_setr (ds := rfsV (setF q ⟨n, (x.safe ++ x.loose).take k, []⟩) (.slice A2 (setF q ⟨n, (x.safe ++ x.loose).take k, []⟩).l.length c2)) hs (.tl (.tl (.tl (.tl .hd)))) (by kernel_rfl) rfl (rfsV_one _) fun w hs => ?_
    refine ⟨hs.mayr (.drop (.drop (.drop (.drop (.cons .hd .nil))))), ?_⟩
    refine mv.mk (sp_rc hs .hd (by kernel_rfl) rfl ?_)
    exact ⟨_, rfl, hs.sbl (.drop (.drop (.cons .hd (.drop (.drop (.drop (.drop .all)))))))⟩
theorem change3 {A c} (hs : Isk.Sep b w (blkI g5 T.isthmusref04_FS (rfsV r (.slice A r.l.length c)) :: resI Tryd.prog g10 T.isthmusref04_FS :: (listF rfF 3 (.slice A r.l.length c) r.l).it :: blkI g12 T.isthmusref04_File (rfV x) :: L)) (hl : r.l.length ≤ 64)
    (hxl : x.safe.length + x.loose.length ≤ 16777216) (hk : kind = 0 ∨ kind = 1 ∨ kind = 2 ∨ (kind = 3 ∧ 0 ≤ kk ∧ kk ≤ ((x.safe ++ x.loose).length : Int))) :
    F.isthmusref04_Change_r3 (fun v w' => ∃ ds, v = .tuple #[.agg ds.toArray, .int .i64 (ch3 r x kind n now kk).2] ∧ Isk.Sep b w' ((rfsF ds (ch3 r x kind n now kk).1).it :: L)) (.int .i64 kind) (str n) (str now) (.int .i64 kk) (.pointer (some ⟨g5, 0, none⟩)) (.pointer (some ⟨g10, 0, none⟩)) (.pointer (some ⟨g12, 0, none⟩)) (str (x.safe ++ x.loose)) w := by
  unfold F.isthmusref04_Change_r3
  refine sp_loadall hs .hd (by kernel_rfl) rfl ?_
  replace hs := rfs_fact hs (.tl (.tl .hd))
  refine cl (isthmusref04_step hs .hd) ?_
  rintro _ w ⟨ds2, rfl, hs⟩
  have hql : (stepR r).1.l.length ≤ 64 := by
    unfold stepR
    split <;> exact hl
  unfold ch3
  obtain ⟨A2, c2, rfl, hs⟩ := rfs_open hs .hd
  generalize stepR r = G at *
  obtain ⟨q, d⟩ := G
  simp only at hql
  repeat (first
   | (with_reducible (first | refine st_lens ?_ | refine st_eqls ?_ | refine st_nels ?_ | refine tk_eqls ?_ | refine tk_nels ?_ | refine mv.mk ?_ | refine nk_p ?_ | refine gdT_i ?_ | refine gdT_ft ?_ | refine gdT_tf ?_ | refine gdT_u ?_ | refine gd_u ?_ | refine gd_ft ?_ | refine gd_tf ?_ | refine gd_i ?_ | refine pk_t ?_ | refine pk_f ?_ | refine br_t ?_ | refine br_f ?_ | refine sp_boxa hs fun g w hs => ?_))
   | (with_reducible ((first | apply st_bin | apply st_ext | apply st_len | apply st_un | apply st_conv | apply st_mki | apply st_fld | apply st_cap | apply st_max | apply st_min | apply st_ixv | apply st_mkf); intro k' hk; simp [go_sem, thenR_ok, bin]; refine hk _ _ ?_; clear hk k'))
   | ((with_reducible (first | apply tk_bin | apply tk_ext | apply tk_len | apply tk_un)); (· intro w; simp [go_sem, bin]; rfl))
   | ((with_reducible apply sp_newr hs); (· kernel_rfl); intro g w hs))
  refine sp_setr (ds := rfsV q (.slice A2 q.l.length c2)) hs .hd (by kernel_rfl) rfl (rfsV_one _) fun w hs => ?_
  replace hs := hs.sbl (L' := blkI g T.isthmusref04_FS (rfsV q (.slice A2 q.l.length c2)) :: resI Tryd.prog g10 T.isthmusref04_FS :: (listF rfF 3 (.slice A2 q.l.length c2) q.l).it :: blkI g12 T.isthmusref04_File (rfV x) :: L) (.cons .hd (.cons (.tl (.tl (.tl (.tl .hd)))) (.cons .hd (.drop (.drop (.drop (.drop .all)))))))
  have hs' := hs
  cases d with
  | true =>
    repeat (first
     | (with_reducible (first | refine st_lens ?_ | refine st_eqls ?_ | refine st_nels ?_ | refine tk_eqls ?_ | refine tk_nels ?_ | refine mv.mk ?_ | refine nk_p ?_ | refine gdT_i ?_ | refine gdT_ft ?_ | refine gdT_tf ?_ | refine gdT_u ?_ | refine gd_u ?_ | refine gd_ft ?_ | refine gd_tf ?_ | refine gd_i ?_ | refine pk_t ?_ | refine pk_f ?_ | refine br_t ?_ | refine br_f ?_ | refine sp_boxa hs fun g w hs => ?_))
     | (with_reducible ((first | apply st_bin | apply st_ext | apply st_len | apply st_un | apply st_conv | apply st_mki | apply st_fld | apply st_cap | apply st_max | apply st_min | apply st_ixv | apply st_mkf); intro k' hk; simp [go_sem, thenR_ok, bin]; refine hk _ _ ?_; clear hk k'))
     | ((with_reducible (first | apply tk_bin | apply tk_ext | apply tk_len | apply tk_un)); (· intro w; simp [go_sem, bin]; rfl))
     | ((with_reducible apply sp_newr hs); (· kernel_rfl); intro g w hs))
    exact rfs_out (.drop .all) hs' rfl rfl
  | false =>
    repeat with_reducible refine mv.mk ?_
    refine br_f ?_
    exact change4 hs' hql hxl hk
theorem change2 {A c} (hs : Isk.Sep b w (blkI g5 T.isthmusref04_FS (rfsV r (.slice A r.l.length c)) :: resI Tryd.prog g10 T.isthmusref04_FS :: (listF rfF 3 (.slice A r.l.length c) r.l).it :: blkI g12 T.isthmusref04_File (rfV x) :: L)) (hl : r.l.length ≤ 64)
    (hxl : x.safe.length + x.loose.length ≤ 16777216) (hk : kind = 0 ∨ kind = 1 ∨ kind = 2 ∨ kind = 3) :
    F.isthmusref04_Change_r2 (fun v w' => ∃ ds, v = .tuple #[.agg ds.toArray, .int .i64 (ch2 r x kind n now kk).2] ∧ Isk.Sep b w' ((rfsF ds (ch2 r x kind n now kk).1).it :: L)) (.int .i64 kind) (str n) (str now) (.int .i64 kk) (.pointer (some ⟨g5, 0, none⟩)) (.pointer (some ⟨g10, 0, none⟩)) (.pointer (some ⟨g12, 0, none⟩)) w := by
  unfold F.isthmusref04_Change_r2
  repeat (first
   | (with_reducible refine rfile.a0 ?_)
   | ((with_reducible apply rfile.r0 hs); (· (with_reducible (repeat (first | exact .blk | exact .rng | apply Rng.tl)))))
   | (with_reducible refine rfile.c0 ?_)
   | ((with_reducible apply rfile.e0); (· first | exact hS | exact hid); (· (with_reducible (repeat (first | exact .blk | exact .rng | apply Rng.tl)))))
   | (with_reducible refine rfile.a1 ?_)
   | ((with_reducible apply rfile.r1 hs); (· (with_reducible (repeat (first | exact .blk | exact .rng | apply Rng.tl)))))
   | (with_reducible refine rfile.c1 ?_)
   | ((with_reducible apply rfile.e1); (· first | exact hS | exact hid); (· (with_reducible (repeat (first | exact .blk | exact .rng | apply Rng.tl)))))
   | (with_reducible refine rfile.a2 ?_)
   | ((with_reducible apply rfile.r2 hs); (· (with_reducible (repeat (first | exact .blk | exact .rng | apply Rng.tl)))))
   | (with_reducible refine rfile.c2 ?_)
   | ((with_reducible apply rfile.e2); (· first | exact hS | exact hid); (· (with_reducible (repeat (first | exact .blk | exact .rng | apply Rng.tl)))))
   | (with_reducible (first | refine st_lens ?_ | refine st_eqls ?_ | refine st_nels ?_ | refine tk_eqls ?_ | refine tk_nels ?_ | refine mv.mk ?_ | refine nk_p ?_ | refine gdT_i ?_ | refine gdT_ft ?_ | refine gdT_tf ?_ | refine gdT_u ?_ | refine gd_u ?_ | refine gd_ft ?_ | refine gd_tf ?_ | refine gd_i ?_ | refine pk_t ?_ | refine pk_f ?_ | refine br_t ?_ | refine br_f ?_ | refine sp_boxa hs fun g w hs => ?_))
   | (with_reducible ((first | apply st_bin | apply st_ext | apply st_len | apply st_un | apply st_conv | apply st_mki | apply st_fld | apply st_cap | apply st_max | apply st_min | apply st_ixv | apply st_mkf); intro k' hk; simp [go_sem, thenR_ok, bin]; refine hk _ _ ?_; clear hk k'))
   | ((with_reducible (first | apply tk_bin | apply tk_ext | apply tk_len | apply tk_un)); (· intro w; simp [go_sem, bin]; rfl))
   | ((with_reducible apply sp_newr hs); (· kernel_rfl); intro g w hs))
  refine st_of (cat_run (by omega) w) ?_
  repeat with_reducible refine mv.mk ?_
  have h3 : ∀ w, Isk.Sep b w (blkI g5 T.isthmusref04_FS (rfsV r (.slice A r.l.length c)) :: resI Tryd.prog g10 T.isthmusref04_FS :: (listF rfF 3 (.slice A r.l.length c) r.l).it :: blkI g12 T.isthmusref04_File (rfV x) :: L) → ¬ (kind = 3 ∧ (kk < 0 ∨ ((x.safe ++ x.loose).length : Int) < kk)) →
      F.isthmusref04_Change_r3 (fun v w' => ∃ ds, v = .tuple #[.agg ds.toArray, .int .i64 (ch2 r x kind n now kk).2] ∧ Isk.Sep b w' ((rfsF ds (ch2 r x kind n now kk).1).it :: L)) (.int .i64 kind) (str n) (str now) (.int .i64 kk) (.pointer (some ⟨g5, 0, none⟩)) (.pointer (some ⟨g10, 0, none⟩)) (.pointer (some ⟨g12, 0, none⟩)) (str (x.safe ++ x.loose)) w := fun w hs hn => by
    rw [ch2, if_neg hn]
    refine change3 hs hl hxl ?_
    rcases hk with h | h | h | h
    · exact .inl h
    · exact .inr (.inl h)
    · exact .inr (.inr (.inl h))
    · exact .inr (.inr (.inr ⟨h, by omega, by omega⟩))
  by_cases c3 : kind = 3
  rotate_left
  · have h1 : (kind == 3) = false := by simpa using c3
    repeat (first
     | (with_reducible (first | refine st_lens ?_ | refine st_eqls ?_ | refine st_nels ?_ | refine tk_eqls ?_ | refine tk_nels ?_ | refine mv.mk ?_ | refine nk_p ?_ | refine gdT_i ?_ | refine gdT_ft ?_ | refine gdT_tf ?_ | refine gdT_u ?_ | refine gd_u ?_ | refine gd_ft ?_ | refine gd_tf ?_ | refine gd_i ?_ | refine pk_t ?_ | refine pk_f ?_ | refine br_t ?_ | refine br_f ?_ | refine sp_boxa hs fun g w hs => ?_))
     | (with_reducible ((first | apply st_bin | apply st_ext | apply st_len | apply st_un | apply st_conv | apply st_mki | apply st_fld | apply st_cap | apply st_max | apply st_min | apply st_ixv | apply st_mkf); intro k' hk; simp [go_sem, thenR_ok, bin]; refine hk _ _ ?_; clear hk k'))
     | ((with_reducible (first | apply tk_bin | apply tk_ext | apply tk_len | apply tk_un)); (· intro w; simp [go_sem, bin]; rfl))
     | ((with_reducible apply sp_newr hs); (· kernel_rfl); intro g w hs))
    rw [h1]
    repeat (first
     | (with_reducible (first | refine st_lens ?_ | refine st_eqls ?_ | refine st_nels ?_ | refine tk_eqls ?_ | refine tk_nels ?_ | refine mv.mk ?_ | refine nk_p ?_ | refine gdT_i ?_ | refine gdT_ft ?_ | refine gdT_tf ?_ | refine gdT_u ?_ | refine gd_u ?_ | refine gd_ft ?_ | refine gd_tf ?_ | refine gd_i ?_ | refine pk_t ?_ | refine pk_f ?_ | refine br_t ?_ | refine br_f ?_ | refine sp_boxa hs fun g w hs => ?_))
     | (with_reducible ((first | apply st_bin | apply st_ext | apply st_len | apply st_un | apply st_conv | apply st_mki | apply st_fld | apply st_cap | apply st_max | apply st_min | apply st_ixv | apply st_mkf); intro k' hk; simp [go_sem, thenR_ok, bin]; refine hk _ _ ?_; clear hk k'))
     | ((with_reducible (first | apply tk_bin | apply tk_ext | apply tk_len | apply tk_un)); (· intro w; simp [go_sem, bin]; rfl))
     | ((with_reducible apply sp_newr hs); (· kernel_rfl); intro g w hs))
    exact h3 w hs (fun h => c3 h.1)
  subst c3
  repeat (first
   | (with_reducible (first | refine st_lens ?_ | refine st_eqls ?_ | refine st_nels ?_ | refine tk_eqls ?_ | refine tk_nels ?_ | refine mv.mk ?_ | refine nk_p ?_ | refine gdT_i ?_ | refine gdT_ft ?_ | refine gdT_tf ?_ | refine gdT_u ?_ | refine gd_u ?_ | refine gd_ft ?_ | refine gd_tf ?_ | refine gd_i ?_ | refine pk_t ?_ | refine pk_f ?_ | refine br_t ?_ | refine br_f ?_ | refine sp_boxa hs fun g w hs => ?_))
   | (with_reducible ((first | apply st_bin | apply st_ext | apply st_len | apply st_un | apply st_conv | apply st_mki | apply st_fld | apply st_cap | apply st_max | apply st_min | apply st_ixv | apply st_mkf); intro k' hk; simp [go_sem, thenR_ok, bin]; refine hk _ _ ?_; clear hk k'))
   | ((with_reducible (first | apply tk_bin | apply tk_ext | apply tk_len | apply tk_un)); (· intro w; simp [go_sem, bin]; rfl))
   | ((with_reducible apply sp_newr hs); (· kernel_rfl); intro g w hs))
  by_cases c1 : kk < 0
  · rw [decide_eq_true c1]
    repeat (first
     | (with_reducible (first | refine st_lens ?_ | refine st_eqls ?_ | refine st_nels ?_ | refine tk_eqls ?_ | refine tk_nels ?_ | refine mv.mk ?_ | refine nk_p ?_ | refine gdT_i ?_ | refine gdT_ft ?_ | refine gdT_tf ?_ | refine gdT_u ?_ | refine gd_u ?_ | refine gd_ft ?_ | refine gd_tf ?_ | refine gd_i ?_ | refine pk_t ?_ | refine pk_f ?_ | refine br_t ?_ | refine br_f ?_ | refine sp_boxa hs fun g w hs => ?_))
     | (with_reducible ((first | apply st_bin | apply st_ext | apply st_len | apply st_un | apply st_conv | apply st_mki | apply st_fld | apply st_cap | apply st_max | apply st_min | apply st_ixv | apply st_mkf); intro k' hk; simp [go_sem, thenR_ok, bin]; refine hk _ _ ?_; clear hk k'))
     | ((with_reducible (first | apply tk_bin | apply tk_ext | apply tk_len | apply tk_un)); (· intro w; simp [go_sem, bin]; rfl))
     | ((with_reducible apply sp_newr hs); (· kernel_rfl); intro g w hs))
    have e : ch2 r x 3 n now kk = (r, 1) := by rw [ch2, if_pos ⟨rfl, .inl c1⟩]
    rw [e]
    exact rfs_out (.drop .all) hs rfl rfl
  rw [decide_eq_false c1]
  repeat (first
   | (with_reducible (first | refine st_lens ?_ | refine st_eqls ?_ | refine st_nels ?_ | refine tk_eqls ?_ | refine tk_nels ?_ | refine mv.mk ?_ | refine nk_p ?_ | refine gdT_i ?_ | refine gdT_ft ?_ | refine gdT_tf ?_ | refine gdT_u ?_ | refine gd_u ?_ | refine gd_ft ?_ | refine gd_tf ?_ | refine gd_i ?_ | refine pk_t ?_ | refine pk_f ?_ | refine br_t ?_ | refine br_f ?_ | refine sp_boxa hs fun g w hs => ?_))
   | (with_reducible ((first | apply st_bin | apply st_ext | apply st_len | apply st_un | apply st_conv | apply st_mki | apply st_fld | apply st_cap | apply st_max | apply st_min | apply st_ixv | apply st_mkf); intro k' hk; simp [go_sem, thenR_ok, bin]; refine hk _ _ ?_; clear hk k'))
   | ((with_reducible (first | apply tk_bin | apply tk_ext | apply tk_len | apply tk_un)); (· intro w; simp [go_sem, bin]; rfl))
   | ((with_reducible apply sp_newr hs); (· kernel_rfl); intro g w hs))
  by_cases c2 : ((x.safe ++ x.loose).length : Int) < kk
  · rw [decide_eq_true (by rw [List.length_append] at c2; omega)]
    repeat (first
     | (with_reducible (first | refine st_lens ?_ | refine st_eqls ?_ | refine st_nels ?_ | refine tk_eqls ?_ | refine tk_nels ?_ | refine mv.mk ?_ | refine nk_p ?_ | refine gdT_i ?_ | refine gdT_ft ?_ | refine gdT_tf ?_ | refine gdT_u ?_ | refine gd_u ?_ | refine gd_ft ?_ | refine gd_tf ?_ | refine gd_i ?_ | refine pk_t ?_ | refine pk_f ?_ | refine br_t ?_ | refine br_f ?_ | refine sp_boxa hs fun g w hs => ?_))
     | (with_reducible ((first | apply st_bin | apply st_ext | apply st_len | apply st_un | apply st_conv | apply st_mki | apply st_fld | apply st_cap | apply st_max | apply st_min | apply st_ixv | apply st_mkf); intro k' hk; simp [go_sem, thenR_ok, bin]; refine hk _ _ ?_; clear hk k'))
     | ((with_reducible (first | apply tk_bin | apply tk_ext | apply tk_len | apply tk_un)); (· intro w; simp [go_sem, bin]; rfl))
     | ((with_reducible apply sp_newr hs); (· kernel_rfl); intro g w hs))
    have e : ch2 r x 3 n now kk = (r, 1) := by rw [ch2, if_pos ⟨rfl, .inr c2⟩]
    rw [e]
    exact rfs_out (.drop .all) hs rfl rfl
  · rw [decide_eq_false (by rw [List.length_append] at c2; omega)]
    repeat (first
     | (with_reducible (first | refine st_lens ?_ | refine st_eqls ?_ | refine st_nels ?_ | refine tk_eqls ?_ | refine tk_nels ?_ | refine mv.mk ?_ | refine nk_p ?_ | refine gdT_i ?_ | refine gdT_ft ?_ | refine gdT_tf ?_ | refine gdT_u ?_ | refine gd_u ?_ | refine gd_ft ?_ | refine gd_tf ?_ | refine gd_i ?_ | refine pk_t ?_ | refine pk_f ?_ | refine br_t ?_ | refine br_f ?_ | refine sp_boxa hs fun g w hs => ?_))
     | (with_reducible ((first | apply st_bin | apply st_ext | apply st_len | apply st_un | apply st_conv | apply st_mki | apply st_fld | apply st_cap | apply st_max | apply st_min | apply st_ixv | apply st_mkf); intro k' hk; simp [go_sem, thenR_ok, bin]; refine hk _ _ ?_; clear hk k'))
     | ((with_reducible (first | apply tk_bin | apply tk_ext | apply tk_len | apply tk_un)); (· intro w; simp [go_sem, bin]; rfl))
     | ((with_reducible apply sp_newr hs); (· kernel_rfl); intro g w hs))
    exact h3 w hs (fun h => h.2.elim c1 c2)
theorem isthmusref04_Change (hs : Isk.Sep b w L) (hm : Ins L (rfsF cs r).it) (hok : okR r) (hn : n.length ≤ 4611686018427387904) (hw : now.length ≤ 4611686018427387904) (hk : kind = 0 ∨ kind = 1 ∨ kind = 2 ∨ kind = 3) :
    C Tryd.prog N.isthmusref04_Change #[.agg cs.toArray, .int .i64 kind, str n, str now, .int .i64 kk] w fun v w' => ∃ ds, v = .tuple #[.agg ds.toArray, .int .i64 (changeR r kind n now kk).2] ∧ Isk.Sep b w' ((rfsF ds (changeR r kind n now kk).1).it :: L) := by
  obtain ⟨A, c, rfl, hs⟩ := rfs_open hs hm
  have hxl := getR_len hok n
  have hl := hok.1
  rw [changeR_eq]
  refine C.isthmusref04_Change ?_
  unfold F.isthmusref04_Change
  refine sp_boxa hs fun g5 w hs => ?_
  refine sp_newr hs (by kernel_rfl) fun g10 w hs => ?_
  repeat with_reducible refine mv.mk ?_
  refine sp_loadall hs (.tl .hd) (by kernel_rfl) rfl ?_
  repeat with_reducible refine mv.mk ?_
  refine cl (isthmusref04_get (n := n) hs (.tl (.tl (.tl hm))) (by omega) hn) ?_
  rintro _ w ⟨rfl, hs⟩
  generalize getR r n = G at *
  obtain ⟨x, e⟩ := G
  simp only at hxl
  repeat with_reducible refine mv.mk ?_
  refine st_of (v := .agg (rfV x).toArray) (w' := w) (by simp [go_sem]) ?_
  refine st_of (v := .int .i64 e) (w' := w) (by simp [go_sem]) ?_
  refine sp_newr hs (by kernel_rfl) fun g12 w hs => ?_
  refine sp_setr (ds := rfV x) hs .hd (by kernel_rfl) rfl (rfV_one x) fun w hs => ?_
  replace hs := hs.sbl (L' := blkI g5 T.isthmusref04_FS (rfsV r (.slice A r.l.length c)) :: resI Tryd.prog g10 T.isthmusref04_FS :: (listF rfF 3 (.slice A r.l.length c) r.l).it :: blkI g12 T.isthmusref04_File (rfV x) :: L) (.cons (.tl (.tl .hd)) (.cons (.tl .hd) (.cons (.tl .hd) .all)))
  have h1 : ∀ w, Isk.Sep b w (blkI g5 T.isthmusref04_FS (rfsV r (.slice A r.l.length c)) :: resI Tryd.prog g10 T.isthmusref04_FS :: (listF rfF 3 (.slice A r.l.length c) r.l).it :: blkI g12 T.isthmusref04_File (rfV x) :: L) → ¬ (kind = 1 ∧ namedF now = false) →
      F.isthmusref04_Change_r1 (fun v w' => ∃ ds, v = .tuple #[.agg ds.toArray, .int .i64 (if kind = 1 ∧ namedF now = false then (r, (1 : Int)) else ch1 r x e kind n now kk).2] ∧ Isk.Sep b w' ((rfsF ds (if kind = 1 ∧ namedF now = false then (r, (1 : Int)) else ch1 r x e kind n now kk).1).it :: L)) (.int .i64 kind) (str n) (str now) (.int .i64 kk) (.pointer (some ⟨g5, 0, none⟩)) (.pointer (some ⟨g10, 0, none⟩)) (.pointer (some ⟨g12, 0, none⟩)) (.int .i64 e) w := by
    intro w hs hn
    rw [if_neg hn]
    unfold F.isthmusref04_Change_r1
    by_cases e0 : e = 0
    · subst e0
      repeat (first
       | (with_reducible (first | refine st_lens ?_ | refine st_eqls ?_ | refine st_nels ?_ | refine tk_eqls ?_ | refine tk_nels ?_ | refine mv.mk ?_ | refine nk_p ?_ | refine gdT_i ?_ | refine gdT_ft ?_ | refine gdT_tf ?_ | refine gdT_u ?_ | refine gd_u ?_ | refine gd_ft ?_ | refine gd_tf ?_ | refine gd_i ?_ | refine pk_t ?_ | refine pk_f ?_ | refine br_t ?_ | refine br_f ?_ | refine sp_boxa hs fun g w hs => ?_))
       | (with_reducible ((first | apply st_bin | apply st_ext | apply st_len | apply st_un | apply st_conv | apply st_mki | apply st_fld | apply st_cap | apply st_max | apply st_min | apply st_ixv | apply st_mkf); intro k' hk; simp [go_sem, thenR_ok, bin]; refine hk _ _ ?_; clear hk k'))
       | ((with_reducible (first | apply tk_bin | apply tk_ext | apply tk_len | apply tk_un)); (· intro w; simp [go_sem, bin]; rfl))
       | ((with_reducible apply sp_newr hs); (· kernel_rfl); intro g w hs))
      have : ch1 r x 0 kind n now kk = ch2 r x kind n now kk := by rw [ch1, if_neg (by simp)]
      rw [this]
      exact change2 hs hl hxl hk
    · have h2 : (e != 0) = true := by simpa using e0
      have : ch1 r x e kind n now kk = (r, e) := by rw [ch1, if_pos e0]
      rw [this]
      repeat (first
       | (with_reducible (first | refine st_lens ?_ | refine st_eqls ?_ | refine st_nels ?_ | refine tk_eqls ?_ | refine tk_nels ?_ | refine mv.mk ?_ | refine nk_p ?_ | refine gdT_i ?_ | refine gdT_ft ?_ | refine gdT_tf ?_ | refine gdT_u ?_ | refine gd_u ?_ | refine gd_ft ?_ | refine gd_tf ?_ | refine gd_i ?_ | refine pk_t ?_ | refine pk_f ?_ | refine br_t ?_ | refine br_f ?_ | refine sp_boxa hs fun g w hs => ?_))
       | (with_reducible ((first | apply st_bin | apply st_ext | apply st_len | apply st_un | apply st_conv | apply st_mki | apply st_fld | apply st_cap | apply st_max | apply st_min | apply st_ixv | apply st_mkf); intro k' hk; simp [go_sem, thenR_ok, bin]; refine hk _ _ ?_; clear hk k'))
       | ((with_reducible (first | apply tk_bin | apply tk_ext | apply tk_len | apply tk_un)); (· intro w; simp [go_sem, bin]; rfl))
       | ((with_reducible apply sp_newr hs); (· kernel_rfl); intro g w hs))
      rw [h2]
      repeat (first
       | (with_reducible (first | refine st_lens ?_ | refine st_eqls ?_ | refine st_nels ?_ | refine tk_eqls ?_ | refine tk_nels ?_ | refine mv.mk ?_ | refine nk_p ?_ | refine gdT_i ?_ | refine gdT_ft ?_ | refine gdT_tf ?_ | refine gdT_u ?_ | refine gd_u ?_ | refine gd_ft ?_ | refine gd_tf ?_ | refine gd_i ?_ | refine pk_t ?_ | refine pk_f ?_ | refine br_t ?_ | refine br_f ?_ | refine sp_boxa hs fun g w hs => ?_))
       | (with_reducible ((first | apply st_bin | apply st_ext | apply st_len | apply st_un | apply st_conv | apply st_mki | apply st_fld | apply st_cap | apply st_max | apply st_min | apply st_ixv | apply st_mkf); intro k' hk; simp [go_sem, thenR_ok, bin]; refine hk _ _ ?_; clear hk k'))
       | ((with_reducible (first | apply tk_bin | apply tk_ext | apply tk_len | apply tk_un)); (· intro w; simp [go_sem, bin]; rfl))
       | ((with_reducible apply sp_newr hs); (· kernel_rfl); intro g w hs))
      refine sp_loadall hs .hd (by kernel_rfl) rfl ?_
      repeat with_reducible refine mv.mk ?_
      refine sp_setr (ds := rfsV r (.slice A r.l.length c)) hs (.tl .hd) (by kernel_rfl) rfl (rfsV_one r) fun w hs => mv.mk (sp_rc hs .hd (by kernel_rfl) rfl ?_)
      exact ⟨_, rfl, (rfs_fact hs (.tl (.tl .hd))).sbl (.cons .hd (.drop (.drop (.drop (.drop .all)))))⟩
  refine mv.mk ?_
  refine mv.mk ?_
  by_cases c1 : kind = 1
  rotate_left
  · have h2 : (kind == 1) = false := by simpa using c1
    repeat (first
     | (with_reducible (first | refine st_lens ?_ | refine st_eqls ?_ | refine st_nels ?_ | refine tk_eqls ?_ | refine tk_nels ?_ | refine mv.mk ?_ | refine nk_p ?_ | refine gdT_i ?_ | refine gdT_ft ?_ | refine gdT_tf ?_ | refine gdT_u ?_ | refine gd_u ?_ | refine gd_ft ?_ | refine gd_tf ?_ | refine gd_i ?_ | refine pk_t ?_ | refine pk_f ?_ | refine br_t ?_ | refine br_f ?_ | refine sp_boxa hs fun g w hs => ?_))
     | (with_reducible ((first | apply st_bin | apply st_ext | apply st_len | apply st_un | apply st_conv | apply st_mki | apply st_fld | apply st_cap | apply st_max | apply st_min | apply st_ixv | apply st_mkf); intro k' hk; simp [go_sem, thenR_ok, bin]; refine hk _ _ ?_; clear hk k'))
     | ((with_reducible (first | apply tk_bin | apply tk_ext | apply tk_len | apply tk_un)); (· intro w; simp [go_sem, bin]; rfl))
     | ((with_reducible apply sp_newr hs); (· kernel_rfl); intro g w hs))
    rw [h2]
    repeat (refine gd_ft ?_)
    refine pk_f ?_
    refine br_f ?_
    exact h1 w hs (fun h => c1 h.1)
  subst c1
  repeat (first
   | (with_reducible (first | refine st_lens ?_ | refine st_eqls ?_ | refine st_nels ?_ | refine tk_eqls ?_ | refine tk_nels ?_ | refine mv.mk ?_ | refine nk_p ?_ | refine gdT_i ?_ | refine gdT_ft ?_ | refine gdT_tf ?_ | refine gdT_u ?_ | refine gd_u ?_ | refine gd_ft ?_ | refine gd_tf ?_ | refine gd_i ?_ | refine pk_t ?_ | refine pk_f ?_ | refine br_t ?_ | refine br_f ?_ | refine sp_boxa hs fun g w hs => ?_))
   | (with_reducible ((first | apply st_bin | apply st_ext | apply st_len | apply st_un | apply st_conv | apply st_mki | apply st_fld | apply st_cap | apply st_max | apply st_min | apply st_ixv | apply st_mkf); intro k' hk; simp [go_sem, thenR_ok, bin]; refine hk _ _ ?_; clear hk k'))
   | ((with_reducible (first | apply tk_bin | apply tk_ext | apply tk_len | apply tk_un)); (· intro w; simp [go_sem, bin]; rfl))
   | ((with_reducible apply sp_newr hs); (· kernel_rfl); intro g w hs))
  refine cl (isthmusref04_named (s := now) hs hw) ?_
  rintro _ w ⟨rfl, hs⟩
  cases hnw : namedF now with
  | false =>
    repeat (first
     | (with_reducible (first | refine st_lens ?_ | refine st_eqls ?_ | refine st_nels ?_ | refine tk_eqls ?_ | refine tk_nels ?_ | refine mv.mk ?_ | refine nk_p ?_ | refine gdT_i ?_ | refine gdT_ft ?_ | refine gdT_tf ?_ | refine gdT_u ?_ | refine gd_u ?_ | refine gd_ft ?_ | refine gd_tf ?_ | refine gd_i ?_ | refine pk_t ?_ | refine pk_f ?_ | refine br_t ?_ | refine br_f ?_ | refine sp_boxa hs fun g w hs => ?_))
     | (with_reducible ((first | apply st_bin | apply st_ext | apply st_len | apply st_un | apply st_conv | apply st_mki | apply st_fld | apply st_cap | apply st_max | apply st_min | apply st_ixv | apply st_mkf); intro k' hk; simp [go_sem, thenR_ok, bin]; refine hk _ _ ?_; clear hk k'))
     | ((with_reducible (first | apply tk_bin | apply tk_ext | apply tk_len | apply tk_un)); (· intro w; simp [go_sem, bin]; rfl))
     | ((with_reducible apply sp_newr hs); (· kernel_rfl); intro g w hs))
    try rw [Bool.not_false]
    repeat (first
     | (with_reducible (first | refine st_lens ?_ | refine st_eqls ?_ | refine st_nels ?_ | refine tk_eqls ?_ | refine tk_nels ?_ | refine mv.mk ?_ | refine nk_p ?_ | refine gdT_i ?_ | refine gdT_ft ?_ | refine gdT_tf ?_ | refine gdT_u ?_ | refine gd_u ?_ | refine gd_ft ?_ | refine gd_tf ?_ | refine gd_i ?_ | refine pk_t ?_ | refine pk_f ?_ | refine br_t ?_ | refine br_f ?_ | refine sp_boxa hs fun g w hs => ?_))
     | (with_reducible ((first | apply st_bin | apply st_ext | apply st_len | apply st_un | apply st_conv | apply st_mki | apply st_fld | apply st_cap | apply st_max | apply st_min | apply st_ixv | apply st_mkf); intro k' hk; simp [go_sem, thenR_ok, bin]; refine hk _ _ ?_; clear hk k'))
     | ((with_reducible (first | apply tk_bin | apply tk_ext | apply tk_len | apply tk_un)); (· intro w; simp [go_sem, bin]; rfl))
     | ((with_reducible apply sp_newr hs); (· kernel_rfl); intro g w hs))
    exact rfs_out (.drop .all) hs (by simp) (by simp)
  | true =>
    rw [hnw] at h1
    refine gd_i ?_
    refine st_of (v := .bool false) (w' := w) (by simp [go_sem]) ?_
    refine pk_t ?_
    refine br_f ?_
    exact h1 w hs (by simp)
theorem isthmusref04_Read (hs : Isk.Sep b w L) (hm : Ins L (rfsF cs r).it) (hok : okR r) (hn : n.length ≤ 4611686018427387904) :
    C Tryd.prog N.isthmusref04_Read #[.agg cs.toArray, str n] w fun v w' => v = .tuple #[str ((getR r n).1.safe ++ (getR r n).1.loose), .int .i64 (getR r n).1.safe.length, .int .i64 (getR r n).2] ∧ Isk.Sep b w' L := by
  obtain ⟨A, c, rfl, hs⟩ := rfs_open hs hm
  have hxl := getR_len hok n
  have hl := hok.1
  refine C.isthmusref04_Read ?_
  unfold F.isthmusref04_Read
  refine sp_boxa hs fun g5 w hs => ?_
  repeat with_reducible refine mv.mk ?_
  refine sp_loadall hs .hd (by kernel_rfl) rfl ?_
  repeat with_reducible refine mv.mk ?_
  refine cl (isthmusref04_get (n := n) hs (.tl (.tl hm)) (by omega) hn) ?_
  rintro _ w ⟨rfl, hs⟩
  generalize getR r n = G at *
  obtain ⟨x, e⟩ := G
  simp only at hxl
  repeat with_reducible refine mv.mk ?_
  refine st_of (v := .agg (rfV x).toArray) (w' := w) (by simp [go_sem]) ?_
  refine st_of (v := .int .i64 e) (w' := w) (by simp [go_sem]) ?_
  refine sp_newr hs (by kernel_rfl) fun g12 w hs => ?_
  refine sp_setr (ds := rfV x) hs .hd (by kernel_rfl) rfl (rfV_one x) fun w hs => ?_
  have hmm := hs.drew.mayr .all
  have hS : ∀ w', w' = w.drew → Mayr _ w' := fun w' e => e.symm ▸ hmm
  repeat (first
   | (with_reducible refine rfile.a0 ?_)
   | ((with_reducible apply rfile.r0 hs); (· (with_reducible (repeat (first | exact .blk | exact .rng | apply Rng.tl)))))
   | (with_reducible refine rfile.c0 ?_)
   | ((with_reducible apply rfile.e0); (· first | exact hS | exact hid); (· (with_reducible (repeat (first | exact .blk | exact .rng | apply Rng.tl)))))
   | (with_reducible refine rfile.a1 ?_)
   | ((with_reducible apply rfile.r1 hs); (· (with_reducible (repeat (first | exact .blk | exact .rng | apply Rng.tl)))))
   | (with_reducible refine rfile.c1 ?_)
   | ((with_reducible apply rfile.e1); (· first | exact hS | exact hid); (· (with_reducible (repeat (first | exact .blk | exact .rng | apply Rng.tl)))))
   | (with_reducible refine rfile.a2 ?_)
   | ((with_reducible apply rfile.r2 hs); (· (with_reducible (repeat (first | exact .blk | exact .rng | apply Rng.tl)))))
   | (with_reducible refine rfile.c2 ?_)
   | ((with_reducible apply rfile.e2); (· first | exact hS | exact hid); (· (with_reducible (repeat (first | exact .blk | exact .rng | apply Rng.tl)))))
   | (with_reducible (first | refine st_lens ?_ | refine st_eqls ?_ | refine st_nels ?_ | refine tk_eqls ?_ | refine tk_nels ?_ | refine mv.mk ?_ | refine nk_p ?_ | refine gdT_i ?_ | refine gdT_ft ?_ | refine gdT_tf ?_ | refine gdT_u ?_ | refine gd_u ?_ | refine gd_ft ?_ | refine gd_tf ?_ | refine gd_i ?_ | refine pk_t ?_ | refine pk_f ?_ | refine br_t ?_ | refine br_f ?_ | refine sp_boxa hs fun g w hs => ?_))
   | (with_reducible ((first | apply st_bin | apply st_ext | apply st_len | apply st_un | apply st_conv | apply st_mki | apply st_fld | apply st_cap | apply st_max | apply st_min | apply st_ixv | apply st_mkf); intro k' hk; simp [go_sem, thenR_ok, bin]; refine hk _ _ ?_; clear hk k'))
   | ((with_reducible (first | apply tk_bin | apply tk_ext | apply tk_len | apply tk_un)); (· intro w; simp [go_sem, bin]; rfl))
   | ((with_reducible apply sp_newr hs); (· kernel_rfl); intro g w hs))
  refine tk_run (cat_run (by omega)) ?_
  repeat (first
   | (with_reducible refine rfile.a0 ?_)
   | ((with_reducible apply rfile.r0 hs); (· (with_reducible (repeat (first | exact .blk | exact .rng | apply Rng.tl)))))
   | (with_reducible refine rfile.c0 ?_)
   | ((with_reducible apply rfile.e0); (· first | exact hS | exact hid); (· (with_reducible (repeat (first | exact .blk | exact .rng | apply Rng.tl)))))
   | (with_reducible refine rfile.a1 ?_)
   | ((with_reducible apply rfile.r1 hs); (· (with_reducible (repeat (first | exact .blk | exact .rng | apply Rng.tl)))))
   | (with_reducible refine rfile.c1 ?_)
   | ((with_reducible apply rfile.e1); (· first | exact hS | exact hid); (· (with_reducible (repeat (first | exact .blk | exact .rng | apply Rng.tl)))))
   | (with_reducible refine rfile.a2 ?_)
   | ((with_reducible apply rfile.r2 hs); (· (with_reducible (repeat (first | exact .blk | exact .rng | apply Rng.tl)))))
   | (with_reducible refine rfile.c2 ?_)
   | ((with_reducible apply rfile.e2); (· first | exact hS | exact hid); (· (with_reducible (repeat (first | exact .blk | exact .rng | apply Rng.tl)))))
   | (with_reducible (first | refine st_lens ?_ | refine st_eqls ?_ | refine st_nels ?_ | refine tk_eqls ?_ | refine tk_nels ?_ | refine mv.mk ?_ | refine nk_p ?_ | refine gdT_i ?_ | refine gdT_ft ?_ | refine gdT_tf ?_ | refine gdT_u ?_ | refine gd_u ?_ | refine gd_ft ?_ | refine gd_tf ?_ | refine gd_i ?_ | refine pk_t ?_ | refine pk_f ?_ | refine br_t ?_ | refine br_f ?_ | refine sp_boxa hs fun g w hs => ?_))
   | (with_reducible ((first | apply st_bin | apply st_ext | apply st_len | apply st_un | apply st_conv | apply st_mki | apply st_fld | apply st_cap | apply st_max | apply st_min | apply st_ixv | apply st_mkf); intro k' hk; simp [go_sem, thenR_ok, bin]; refine hk _ _ ?_; clear hk k'))
   | ((with_reducible (first | apply tk_bin | apply tk_ext | apply tk_len | apply tk_un)); (· intro w; simp [go_sem, bin]; rfl))
   | ((with_reducible apply sp_newr hs); (· kernel_rfl); intro g w hs))
  refine tk_run lens_run ?_
  repeat with_reducible refine mv.mk ?_
  exact ⟨rfl, hs.drew.sbl (.drop (.drop (.drop .all)))⟩
end
end Go.Proofs.YtiaiglgfangedaaDoor
