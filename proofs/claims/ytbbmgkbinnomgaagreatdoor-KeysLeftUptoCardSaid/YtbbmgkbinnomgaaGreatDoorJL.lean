/- KeysLeft. -/
import Derived.Test.YtbbmgkbinnomgaaGreatDoorJK
set_option linter.unusedVariables false
set_option linter.unusedSimpArgs false
set_option linter.unusedSectionVars false
namespace Go.Proofs.YtbbmgkbinnomgaaGreatDoor
open Go Go.Isk Go.RowKit
set_option maxRecDepth 20000
def F.isthmuslaw06_KeysLeft_r (k : Value → World → Prop) (a0 t6 t7 t8 t9 t10 t11 : Value) (w : World) : Prop :=
  mv t9 fun t40 =>
  o1 Tryz.prog (bin .neq 30 (.tmp 40) (.const .nilIface) t40 .nilIface) w fun t41 w =>
  mv t41 fun t42 =>
  gd t42 false (fun k1 => mv t11 fun v => k1 v w) w fun t43 w =>
  gd t42 false (fun k2 => o1 Tryz.prog (bin .neq 30 (.tmp 43) (.const .nilIface) t43 .nilIface) w k2) w fun t44 w =>
  pk t42 (.bool true) t44 fun t45 =>
  mv t45 fun t46 =>
  gd t46 false (fun k3 => mv t8 fun v => k3 v w) w fun t47 w =>
  gd t46 false (fun k4 => o1 Tryz.prog (bin .eql 50 (.tmp 47) (.const (.pointer none)) t47 (.pointer none)) w k4) w fun t48 w =>
  pk t46 (.bool true) t48 fun t49 =>
  br t49 (fun _ =>
  mv (.bool false) fun t6_1 =>
  k t6_1 w) (fun _ =>
  o1 Tryz.prog (Instr.fieldAt 25 t7 1) w fun t50 w =>
  o1 Tryz.prog (Instr.loadAt 3 t50) w fun t51 w =>
  o1 Tryz.prog (convert 3 49 t51) w fun t52 w =>
  o1 Tryz.prog (bin .shl 3 (.const (.int .i64 1)) (.tmp 52) (.int .i64 1) t52) w fun t53 w =>
  mv t53 fun t12 =>
  mv (.int .i64 0) fun t13 =>
  lp [t6, t13, undef, undef, undef, undef] w fun I1 μ1 => ∀ (x1 : Env) (w1 : World), I1 [x1 6, x1 13, x1 14, x1 15, x1 16, x1 17] w1 →
  mv (x1 13) fun t54 =>
  mv t12 fun t55 =>
  o1 Tryz.prog (bin .lss 3 (.tmp 54) (.tmp 55) t54 t55) w1 fun t56 w =>
  br t56 (fun _ =>
  mv t8 fun t60 =>
  mv a0 fun t61 =>
  o1 Tryz.prog (convert 9 26 t61) w fun t62 w =>
  C Tryz.prog N.keys_Signer_Sign #[t60, t62] w fun t63 w =>
  mv t63 fun t59 =>
  o1 Tryz.prog (Instr.extract t59 0) w fun t64 w =>
  o1 Tryz.prog (Instr.extract t59 1) w fun t65 w =>
  mv t64 fun t14 =>
  mv t65 fun t15 =>
  mv t14 fun t67 =>
  C Tryz.prog N.keys_Leaf #[t67] w fun t68 w =>
  mv t68 fun t66 =>
  o1 Tryz.prog (Instr.extract t66 0) w fun t69 w =>
  o1 Tryz.prog (Instr.extract t66 1) w fun t70 w =>
  mv t69 fun t16 =>
  mv t70 fun t17 =>
  dr w.drew fun S3 =>
  mv t15 fun t71 =>
  tk Tryz.prog S3 (bin .neq 30 (.tmp 71) (.const .nilIface) t71 .nilIface) fun t72 =>
  mv t72 fun t73 =>
  gdT t73 false (fun k5 => mv t17 k5) fun t74 =>
  gdT t73 false (fun k6 => tk Tryz.prog S3 (bin .neq 30 (.tmp 74) (.const .nilIface) t74 .nilIface) k6) fun t75 =>
  pk t73 (.bool true) t75 fun t76 =>
  mv t76 fun t77 =>
  gdT t77 false (fun k7 => mv t16 k7) fun t78 =>
  gdT t77 false (fun k8 => mv (x1 13) k8) fun t79 =>
  gdT t77 false (fun k9 => tk Tryz.prog S3 (bin .neq 3 (.tmp 78) (.tmp 79) t78 t79) k9) fun t80 =>
  pk t77 (.bool true) t80 fun t81 =>
  mv t81 fun t82 =>
  gdT t82 false (fun k10 => mv t8 k10) fun t83 =>
  gdT t82 false (fun k11 => mv t12 k11) fun t85 =>
  gdT t82 false (fun k12 => tk Tryz.prog S3 (bin .sub 3 (.tmp 85) (.const (.int .i64 1)) t85 (.int .i64 1)) k12) fun t86 =>
  gdT t82 false (fun k13 => mv (x1 13) k13) fun t87 =>
  gdT t82 false (fun k14 => tk Tryz.prog S3 (bin .sub 3 (.tmp 86) (.tmp 87) t86 t87) k14) fun t88 =>
  gd t82 false (fun k15 => C Tryz.prog N.keys_Signer_Left #[t83] w.drew k15) w.drew fun t84 w =>
  S3 w ∧
  gdT t82 false (fun k16 => tk Tryz.prog S3 (bin .neq 3 (.tmp 84) (.tmp 88) t84 t88) k16) fun t89 =>
  pk t82 (.bool true) t89 fun t90 =>
  mv t90 fun t91 =>
  gdT t91 false (fun k17 => mv t8 k17) fun t92 =>
  nS S3 w fun S4 =>
  gdT t91 false (fun k18 => tk Tryz.prog S4 (Instr.loadAt 25 t7) k18) fun t94 =>
  gdT t91 false (fun k19 => mv a0 k19) fun t95 =>
  gdT t91 false (fun k20 => mv t14 k20) fun t97 =>
  (gd t91 false (fun k21 => C Tryz.prog N.keys_Signer_Root #[t92] w k21) w fun t93 w =>
  S4 w ∧
  gd t91 false (fun k22 => o1 Tryz.prog (convert 9 26 t95) w k22) w fun t96 w =>
  S4 w ∧
  gd t91 false (fun k23 => C Tryz.prog N.keys_Verify #[t93, t94, t96, t97] w k23) w fun t98 w =>
  S4 w ∧
  gdT t91 false (fun k24 => tk Tryz.prog S4 (bin .neq 30 (.tmp 98) (.const .nilIface) t98 .nilIface) k24) fun t99 =>
  pk t91 (.bool true) t99 fun t100 =>
  br t100 (fun _ =>
  mv (.bool false) fun t6_2 =>
  k t6_2 w) (fun _ =>
  dr w.drew fun S5 =>
  tk Tryz.prog S5 (Instr.loadAt 23 t10) fun t101 =>
  mv t8 fun t102 =>
  C Tryz.prog N.keys_Signer_Root #[t102] w.drew fun t103 w =>
  S5 w ∧
  tk Tryz.prog S5 (bin .neq 23 (.tmp 101) (.tmp 103) t101 t103) fun t104 =>
  mv t104 fun t105 =>
  nS S5 w fun S6 =>
  gdT t105 true (fun k25 => tk Tryz.prog S6 (Instr.loadAt 23 t10) k25) fun t106 =>
  gdT t105 true (fun k26 => tk Tryz.prog S6 (Instr.loadAt 25 t7) k26) fun t107 =>
  gdT t105 true (fun k27 => mv a0 k27) fun t108 =>
  gdT t105 true (fun k28 => mv t14 k28) fun t110 =>
  gd t105 true (fun k29 => o1 Tryz.prog (convert 9 26 t108) w k29) w fun t109 w =>
  S6 w ∧
  gd t105 true (fun k30 => C Tryz.prog N.keys_Verify #[t106, t107, t109, t110] w k30) w fun t111 w =>
  S6 w ∧
  gdT t105 true (fun k31 => tk Tryz.prog S6 (bin .eql 30 (.tmp 111) (.const .nilIface) t111 .nilIface) k31) fun t112 =>
  pk t105 t112 (.bool false) fun t113 =>
  br t113 (fun _ =>
  mv (.bool false) fun t6_3 =>
  k t6_3 w) (fun _ =>
  mv (x1 13) fun t57 =>
  o1 Tryz.prog (bin .add 3 (.tmp 57) (.const (.int .i64 1)) t57 (.int .i64 1)) w fun t58 w =>
  mv t58 fun t13_1 =>
  I1 [(x1 6), t13_1, t14, t15, t16, t17] w ∧ μ1 [(x1 6), t13_1, t14, t15, t16, t17] w < μ1 [x1 6, x1 13, x1 14, x1 15, x1 16, x1 17] w1))) ∧ (
  gd t91 false (fun k32 => o1 Tryz.prog (convert 9 26 t95) w k32) w fun t96_1 w =>
  S4 w ∧
  gd t91 false (fun k33 => C Tryz.prog N.keys_Signer_Root #[t92] w k33) w fun t93_1 w =>
  S4 w ∧
  gd t91 false (fun k34 => C Tryz.prog N.keys_Verify #[t93_1, t94, t96_1, t97] w k34) w fun t98_1 w =>
  S4 w ∧
  gdT t91 false (fun k35 => tk Tryz.prog S4 (bin .neq 30 (.tmp 98) (.const .nilIface) t98_1 .nilIface) k35) fun t99_1 =>
  pk t91 (.bool true) t99_1 fun t100_1 =>
  br t100_1 (fun _ =>
  mv (.bool false) fun t6_4 =>
  k t6_4 w) (fun _ =>
  dr w.drew fun S7 =>
  tk Tryz.prog S7 (Instr.loadAt 23 t10) fun t101_1 =>
  mv t8 fun t102_1 =>
  C Tryz.prog N.keys_Signer_Root #[t102_1] w.drew fun t103_1 w =>
  S7 w ∧
  tk Tryz.prog S7 (bin .neq 23 (.tmp 101) (.tmp 103) t101_1 t103_1) fun t104_1 =>
  mv t104_1 fun t105_1 =>
  nS S7 w fun S8 =>
  gdT t105_1 true (fun k36 => tk Tryz.prog S8 (Instr.loadAt 23 t10) k36) fun t106_1 =>
  gdT t105_1 true (fun k37 => tk Tryz.prog S8 (Instr.loadAt 25 t7) k37) fun t107_1 =>
  gdT t105_1 true (fun k38 => mv a0 k38) fun t108_1 =>
  gdT t105_1 true (fun k39 => mv t14 k39) fun t110_1 =>
  gd t105_1 true (fun k40 => o1 Tryz.prog (convert 9 26 t108_1) w k40) w fun t109_1 w =>
  S8 w ∧
  gd t105_1 true (fun k41 => C Tryz.prog N.keys_Verify #[t106_1, t107_1, t109_1, t110_1] w k41) w fun t111_1 w =>
  S8 w ∧
  gdT t105_1 true (fun k42 => tk Tryz.prog S8 (bin .eql 30 (.tmp 111) (.const .nilIface) t111_1 .nilIface) k42) fun t112_1 =>
  pk t105_1 t112_1 (.bool false) fun t113_1 =>
  br t113_1 (fun _ =>
  mv (.bool false) fun t6_5 =>
  k t6_5 w) (fun _ =>
  mv (x1 13) fun t57_1 =>
  o1 Tryz.prog (bin .add 3 (.tmp 57) (.const (.int .i64 1)) t57_1 (.int .i64 1)) w fun t58_1 w =>
  mv t58_1 fun t13_2 =>
  I1 [(x1 6), t13_2, t14, t15, t16, t17] w ∧ μ1 [(x1 6), t13_2, t14, t15, t16, t17] w < μ1 [x1 6, x1 13, x1 14, x1 15, x1 16, x1 17] w1)))) (fun _ =>
  mv t8 fun t115 =>
  mv a0 fun t116 =>
  o1 Tryz.prog (convert 9 26 t116) w fun t117 w =>
  C Tryz.prog N.keys_Signer_Sign #[t115, t117] w fun t118 w =>
  mv t118 fun t114 =>
  o1 Tryz.prog (Instr.extract t114 0) w fun t119 w =>
  o1 Tryz.prog (Instr.extract t114 1) w fun t120 w =>
  mv t119 fun t18 =>
  mv t120 fun t19 =>
  mv t19 fun t121 =>
  C Tryz.prog N.isthmuslaw06_num #[t121] w fun t122 w =>
  o1 Tryz.prog (bin .eql 3 (.tmp 122) (.const (.int .i64 22)) t122 (.int .i64 22)) w fun t123 w =>
  mv t123 fun t124 =>
  gd t124 true (fun k43 => C Tryz.prog N.isthmuslaw06_sure #[] w k43) w fun t125 w =>
  pk t124 t125 (.bool false) fun t126 =>
  mv t126 fun t6_6 =>
  k t6_6 w))
def F.isthmuslaw06_KeysLeft_b (I1 : List Value → World → Prop) (μ1 : List Value → World → Nat) (k : Value → World → Prop) (x1 : Env) (w1 : World) (a0 t7 t8 t10 t14 t15 t16 t17 : Value) (w : World) : Prop :=
  dr w.drew fun S5 =>
  tk Tryz.prog S5 (Instr.loadAt 23 t10) fun t101 =>
  mv t8 fun t102 =>
  C Tryz.prog N.keys_Signer_Root #[t102] w.drew fun t103 w =>
  S5 w ∧
  tk Tryz.prog S5 (bin .neq 23 (.tmp 101) (.tmp 103) t101 t103) fun t104 =>
  mv t104 fun t105 =>
  nS S5 w fun S6 =>
  gdT t105 true (fun k25 => tk Tryz.prog S6 (Instr.loadAt 23 t10) k25) fun t106 =>
  gdT t105 true (fun k26 => tk Tryz.prog S6 (Instr.loadAt 25 t7) k26) fun t107 =>
  gdT t105 true (fun k27 => mv a0 k27) fun t108 =>
  gdT t105 true (fun k28 => mv t14 k28) fun t110 =>
  gd t105 true (fun k29 => o1 Tryz.prog (convert 9 26 t108) w k29) w fun t109 w =>
  S6 w ∧
  gd t105 true (fun k30 => C Tryz.prog N.keys_Verify #[t106, t107, t109, t110] w k30) w fun t111 w =>
  S6 w ∧
  gdT t105 true (fun k31 => tk Tryz.prog S6 (bin .eql 30 (.tmp 111) (.const .nilIface) t111 .nilIface) k31) fun t112 =>
  pk t105 t112 (.bool false) fun t113 =>
  br t113 (fun _ =>
  mv (.bool false) fun t6_3 =>
  k t6_3 w) (fun _ =>
  mv (x1 13) fun t57 =>
  o1 Tryz.prog (bin .add 3 (.tmp 57) (.const (.int .i64 1)) t57 (.int .i64 1)) w fun t58 w =>
  mv t58 fun t13_1 =>
  I1 [(x1 6), t13_1, t14, t15, t16, t17] w ∧ μ1 [(x1 6), t13_1, t14, t15, t16, t17] w < μ1 [x1 6, x1 13, x1 14, x1 15, x1 16, x1 17] w1)
abbrev klS (gS gF gm g10 g7 : Nat) (na nb : Bytes) (dp : Int) (lv : Value) (i : Nat) (z : FsD) (L : List It) : List It :=
  blkI gS T.keys_Signer (sgV gF [107] (seedK na) 4 dp lv i .nilIface) :: blkI gF T.files_FS (fsV gm z) :: mapI fileF gm z.m :: (listF hshF 32 lv (leavesB (seedK na) (4 : Int).toNat (2 ^ dp.toNat))).it :: blkI g10 T.api_Hash (u8s (rootK (seedK nb) 4 dp)) :: blkI g7 T.api_Params (paraC (.int .i64 4) (.int .i64 dp)) :: L
section
variable {b : Base} {w : World} {L R : List It} {gS gF gm g10 g7 i : Nat} {na nb : Bytes} {dp : Int} {lv tv e : Value} {z : FsD} {n : Int}
theorem err_eqlT {S : World → Prop} {i : Nat} {k : Value → Prop} (hs : Isk.Sep b w L) (hm : Ins L (errF e n).it) (hk : k (.bool (decide (n = 0)))) : tk Tryz.prog S (bin .eql T.error (.tmp i) (.const .nilIface) e .nilIface) k := by
  refine tk_run (fun w' => ?_) hk
  obtain ⟨d, hd⟩ := hs.get hm
  cases d with
  | zero =>
    rcases hd with ⟨rfl, rfl⟩ | ⟨rfl, h0, _⟩
    · simp [go_sem, bin]
    · simp [go_sem, bin, h0]
  | succ d' =>
    obtain ⟨_, _, _, rfl, h0, _⟩ := hd
    simp [go_sem, bin, h0]
theorem rootK_32 (seed : Bytes) (dg dp : Int) : (rootK seed dg dp).length = 32 := rootB_len _ rfl (leavesB_32 _ _ _)
/-- behind the key's own root: another key's -/
theorem kl_body {I1 : List Value → World → Prop} {μ1 : List Value → World → Nat} {K : Value → World → Prop} {x1 : Env} {w1 : World} {v16 v17 : Value} (hR : Ins L rndF.it) (hk : kCheck 4 dp = 0) (hi : i < 2 ^ dp.toNat) (hna : na.length ≤ 10000000)
    (hx6 : x1 6 = .bool false) (hx13 : x1 13 = .int .i64 (i : Int))
    (hs : Isk.Sep b w ((byF tv (signK (seedK na) 4 dp i na)).it :: klS gS gF gm g10 g7 na nb dp lv (i + 1) z L))
    (hI : ∀ w', Isk.Sep b w' (klS gS gF gm g10 g7 na nb dp lv (i + 1) z L) → I1 [.bool false, .int .i64 ((i + 1 : Nat) : Int), tv, .nilIface, v16, v17] w' ∧ μ1 [.bool false, .int .i64 ((i + 1 : Nat) : Int), tv, .nilIface, v16, v17] w' < μ1 [x1 6, x1 13, x1 14, x1 15, x1 16, x1 17] w1) :
    F.isthmuslaw06_KeysLeft_b I1 μ1 K x1 w1 (str na) (.pointer (some ⟨g7, 0, none⟩)) (.pointer (some ⟨gS, 0, none⟩)) (.pointer (some ⟨g10, 0, none⟩)) tv .nilIface v16 v17 w := by
  obtain ⟨h1, h2, h3, h4⟩ := kCheck_ok hk
  have hp := pow_small h3 h4
  have hsd := seedK_len na
  have hll := leavesB_len (seedK na) (4 : Int).toNat (2 ^ dp.toNat)
  have hra := rootK_32 (seedK na) 4 dp
  have hrb := rootK_32 (seedK nb) 4 dp
  have hrl : (u8s (rootK (seedK nb) 4 dp)).length = 32 := (u8s_length _).trans hrb
  have hsl := signK_len (seed := seedK na) (text := na) (leaf := i) hk hi
  rw [hx6, hx13] at hI
  unfold F.isthmuslaw06_KeysLeft_b
  simp only [hx6, hx13]
  replace hs := hs.drew
  refine dr_can (R := [blkI g10 T.api_Hash (u8s (rootK (seedK nb) 4 dp)), blkI g7 T.api_Params (paraC (.int .i64 4) (.int .i64 dp))]) hs (.drop (.drop (.drop (.drop (.drop (.cons .hd (.cons .hd .nil))))))) ?_
  have hS : ∀ w, Mayr [blkI g10 T.api_Hash (u8s (rootK (seedK nb) 4 dp)), blkI g7 T.api_Params (paraC (.int .i64 4) (.int .i64 dp))] w → Mayr [blkI g10 T.api_Hash (u8s (rootK (seedK nb) 4 dp)), blkI g7 T.api_Params (paraC (.int .i64 4) (.int .i64 dp))] w := fun _ h => h
  refine tk_ldn hS .blk (by kernel_rfl) hrl ?_
  repeat with_reducible refine mv.mk ?_
  refine cl (keys_SRoot (hs.sbl (.cons (.tl .hd) .all)) (.tl (.tl (.tl (.tl (.tl (.tl hR)))))) hsd (.tl (.tl (.tl .hd))) (by omega)) ?_
  rintro _ w ⟨rfl, hs⟩
  replace hs : Isk.Sep b w (blkI gS T.keys_Signer (sgV gF [107] (seedK na) 4 dp lv (i + 1) .nilIface) :: (byF tv (signK (seedK na) 4 dp i na)).it :: blkI gF T.files_FS (fsV gm z) :: mapI fileF gm z.m :: (listF hshF 32 lv (leavesB (seedK na) (4 : Int).toNat (2 ^ dp.toNat))).it :: blkI g10 T.api_Hash (u8s (rootK (seedK nb) 4 dp)) :: blkI g7 T.api_Params (paraC (.int .i64 4) (.int .i64 dp)) :: L) := hs
  have hM : ∀ {w : World}, Isk.Sep b w (blkI gS T.keys_Signer (sgV gF [107] (seedK na) 4 dp lv (i + 1) .nilIface) :: (byF tv (signK (seedK na) 4 dp i na)).it :: blkI gF T.files_FS (fsV gm z) :: mapI fileF gm z.m :: (listF hshF 32 lv (leavesB (seedK na) (4 : Int).toNat (2 ^ dp.toNat))).it :: blkI g10 T.api_Hash (u8s (rootK (seedK nb) 4 dp)) :: blkI g7 T.api_Params (paraC (.int .i64 4) (.int .i64 dp)) :: L) → Mayr [blkI g10 T.api_Hash (u8s (rootK (seedK nb) 4 dp)), blkI g7 T.api_Params (paraC (.int .i64 4) (.int .i64 dp))] w :=
    fun hs => hs.mayr (.drop (.drop (.drop (.drop (.drop (.cons .hd (.cons .hd .nil)))))))
  refine ⟨hM hs, ?_⟩
  refine tk_run (hash_ne hrb hra _ _) ?_
  repeat with_reducible refine mv.mk ?_
  refine nS_can hs (.drop (.drop (.drop (.drop (.drop (.cons .hd (.cons .hd .nil))))))) .all ?_
  have hfin : ∀ {w : World}, Isk.Sep b w (blkI gS T.keys_Signer (sgV gF [107] (seedK na) 4 dp lv (i + 1) .nilIface) :: (byF tv (signK (seedK na) 4 dp i na)).it :: blkI gF T.files_FS (fsV gm z) :: mapI fileF gm z.m :: (listF hshF 32 lv (leavesB (seedK na) (4 : Int).toNat (2 ^ dp.toNat))).it :: blkI g10 T.api_Hash (u8s (rootK (seedK nb) 4 dp)) :: blkI g7 T.api_Params (paraC (.int .i64 4) (.int .i64 dp)) :: L) →
      I1 [.bool false, .int .i64 ((i + 1 : Nat) : Int), tv, .nilIface, v16, v17] w ∧ μ1 [.bool false, .int .i64 ((i + 1 : Nat) : Int), tv, .nilIface, v16, v17] w < μ1 [.bool false, .int .i64 (i : Int), x1 14, x1 15, x1 16, x1 17] w1 :=
    fun hs => hI _ (hs.sbl (.cons .hd (.drop .all)))
  by_cases hab : rootK (seedK nb) 4 dp = rootK (seedK na) 4 dp
  · rw [show (!decide (rootK (seedK nb) 4 dp = rootK (seedK na) 4 dp)) = false by simp [hab]]
    repeat (first
     | (with_reducible (first | refine st_eqls ?_ | refine st_nels ?_ | refine tk_eqls ?_ | refine tk_nels ?_ | refine mv.mk ?_ | refine gdT_i ?_ | refine gdT_ft ?_ | refine gdT_tf ?_ | refine gdT_u ?_ | refine gd_u ?_ | refine gd_ft ?_ | refine gd_tf ?_ | refine gd_i ?_ | refine pk_t ?_ | refine pk_f ?_ | refine br_t ?_ | refine br_f ?_))
     | (with_reducible ((first | apply st_bin | apply st_conv); intro k' hk; simp [go_sem, thenR_ok, bin]; refine hk _ _ ?_; clear hk k'))
     | ((with_reducible (first | apply tk_bin)); (· intro w; simp [go_sem, bin]; rfl)))
    refine ⟨hM hs, ?_⟩
    repeat (first
     | (with_reducible (first | refine st_eqls ?_ | refine st_nels ?_ | refine tk_eqls ?_ | refine tk_nels ?_ | refine mv.mk ?_ | refine gdT_i ?_ | refine gdT_ft ?_ | refine gdT_tf ?_ | refine gdT_u ?_ | refine gd_u ?_ | refine gd_ft ?_ | refine gd_tf ?_ | refine gd_i ?_ | refine pk_t ?_ | refine pk_f ?_ | refine br_t ?_ | refine br_f ?_))
     | (with_reducible ((first | apply st_bin | apply st_conv); intro k' hk; simp [go_sem, thenR_ok, bin]; refine hk _ _ ?_; clear hk k'))
     | ((with_reducible (first | apply tk_bin)); (· intro w; simp [go_sem, bin]; rfl)))
    refine ⟨hM hs, ?_⟩
    repeat (first
     | (with_reducible (first | refine st_eqls ?_ | refine st_nels ?_ | refine tk_eqls ?_ | refine tk_nels ?_ | refine mv.mk ?_ | refine gdT_i ?_ | refine gdT_ft ?_ | refine gdT_tf ?_ | refine gdT_u ?_ | refine gd_u ?_ | refine gd_ft ?_ | refine gd_tf ?_ | refine gd_i ?_ | refine pk_t ?_ | refine pk_f ?_ | refine br_t ?_ | refine br_f ?_))
     | (with_reducible ((first | apply st_bin | apply st_conv); intro k' hk; simp [go_sem, thenR_ok, bin]; refine hk _ _ ?_; clear hk k'))
     | ((with_reducible (first | apply tk_bin)); (· intro w; simp [go_sem, bin]; rfl)))
    rw [i64_succ (by omega)]
    exact hfin hs
  · rw [show (!decide (rootK (seedK nb) 4 dp = rootK (seedK na) 4 dp)) = true by simp [hab]]
    refine gdT_i ?_
    refine tk_ldn hS .blk (by kernel_rfl) hrl ?_
    refine gdT_i ?_
    refine tk_ldn hS (.tl .blk) (by kernel_rfl) rfl ?_
    repeat (first
     | (with_reducible (first | refine st_eqls ?_ | refine st_nels ?_ | refine tk_eqls ?_ | refine tk_nels ?_ | refine mv.mk ?_ | refine gdT_i ?_ | refine gdT_ft ?_ | refine gdT_tf ?_ | refine gdT_u ?_ | refine gd_u ?_ | refine gd_ft ?_ | refine gd_tf ?_ | refine gd_i ?_ | refine pk_t ?_ | refine pk_f ?_ | refine br_t ?_ | refine br_f ?_))
     | (with_reducible ((first | apply st_bin | apply st_conv); intro k' hk; simp [go_sem, thenR_ok, bin]; refine hk _ _ ?_; clear hk k'))
     | ((with_reducible (first | apply tk_bin)); (· intro w; simp [go_sem, bin]; rfl)))
    refine sp_tob (u := .string) hs (by_ := 1) (E := T.uint8) (by kernel_rfl) (by kernel_rfl) (by kernel_rfl) fun v w hs => ?_
    refine ⟨hM (hs.drop .hd), ?_⟩
    refine gd_i ?_
    refine cl (keys_Verify (dg := 4) (dp := dp) (text := na) hs (.tl (.tl (.tl (.tl (.tl (.tl (.tl (.tl hR)))))))) .hd (.tl (.tl .hd)) (by omega) (by omega) hrb) ?_
    rintro e w hs
    have hv : verifyK (rootK (seedK nb) 4 dp) 4 dp na (signK (seedK na) 4 dp i na) = 21 := by
      rw [verify_sign hk hi, if_neg (fun h => hab h.symm)]
    rw [hv] at hs
    refine ⟨hM (hs.sbl (.drop (.drop .all))), ?_⟩
    refine gdT_i ?_
    refine err_eqlT hs .hd ?_
    rw [show decide ((21 : Int) = 0) = false by decide]
    repeat (first
     | (with_reducible (first | refine st_eqls ?_ | refine st_nels ?_ | refine tk_eqls ?_ | refine tk_nels ?_ | refine mv.mk ?_ | refine gdT_i ?_ | refine gdT_ft ?_ | refine gdT_tf ?_ | refine gdT_u ?_ | refine gd_u ?_ | refine gd_ft ?_ | refine gd_tf ?_ | refine gd_i ?_ | refine pk_t ?_ | refine pk_f ?_ | refine br_t ?_ | refine br_f ?_))
     | (with_reducible ((first | apply st_bin | apply st_conv); intro k' hk; simp [go_sem, thenR_ok, bin]; refine hk _ _ ?_; clear hk k'))
     | ((with_reducible (first | apply tk_bin)); (· intro w; simp [go_sem, bin]; rfl)))
    rw [i64_succ (by omega)]
    exact hfin (hs.sbl (.drop (.drop .all)))
end
end Go.Proofs.YtbbmgkbinnomgaaGreatDoor
