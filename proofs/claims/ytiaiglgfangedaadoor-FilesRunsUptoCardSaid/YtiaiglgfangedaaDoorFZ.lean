/- files: FilesRuns. -/
import Derived.Test.YtiaiglgfangedaaDoorGC
import Derived.Test.YtiaiglgfangedaaDoorFP
set_option linter.unusedVariables false
set_option linter.unusedSimpArgs false
set_option linter.unusedSectionVars false
namespace Go.Proofs.YtiaiglgfangedaaDoor
open Go Go.Isk Go.RowKit
set_option maxRecDepth 20000
section
variable {b : Base} {w : World} {L R M : List It} {g gf gm g4 g5 g6 : Nat} {v sv kv dv lv e : Value} {cs ds : List Value} {z Z : FsD} {r Q : RFS} {x : ActD} {l : List ActD} {k : Value → World → Prop}
def otN : Bytes := [111, 116, 104, 101, 114]
theorem acT : slT Tryd.prog T.sl_isthmuslaw04_Act T.isthmuslaw04_Act 6 96 = true := by kernel_rfl
theorem zero_rfs {k : Value → World → Prop} (hk : k (.agg (rfsV ⟨[], 0, false, 0, false⟩ (.slice none 0 0)).toArray) w) : o1 Tryd.prog (Instr.build T.isthmusref04_FS #[]) w k := st_build (by kernel_rfl) hk
/-- the file system's place that holds what the document answered -/
theorem rfs_new {g7 : Nat} (hs : Isk.Sep b w ((rfsF ds Q).it :: M)) (hr : Has M (resI Tryd.prog g7 T.isthmusref04_FS) R)
    (hk : ∀ A c w', Isk.Sep b w' (blkI g7 T.isthmusref04_FS (rfsV Q (.slice A Q.l.length c)) :: (listF rfF 3 (.slice A Q.l.length c) Q.l).it :: R) → k undef w') :
    o0 Tryd.prog (Instr.storeAt T.isthmusref04_FS (.pointer (some ⟨g7, 0, none⟩)) (.agg ds.toArray)) w k := by
  obtain ⟨A, c, rfl, hs⟩ := rfs_open hs .hd
  refine sp_setr (ds := rfsV Q (.slice A Q.l.length c)) hs (.tl (.tl hr)) (by kernel_rfl) rfl (rfsV_one Q) fun w hs => hk A c w (hs.sbl (.cons .hd (.cons .hd (.drop .all))))
def F.isthmuslaw04_FilesRuns_r (k : Value → World → Prop) (t3 t4 t45 : Value) (w : World) : Prop :=
  C Tryd.prog N.files_FS_Clone #[t45] w fun t46 w =>
  mv t46 fun t8 =>
  mv t8 fun t47 =>
  o1 Tryd.prog (bin .eql 23 (.tmp 47) (.const (.pointer none)) t47 (.pointer none)) w fun t48 w =>
  mv t48 fun t49 =>
  gd t49 false (fun k11 => mv t8 fun v => k11 v w) w fun t50 w =>
  gd t49 false (fun k12 => o1 Tryd.prog (Instr.loadAt 42 t4) w k12) w fun t51 w =>
  gd t49 false (fun k13 => C Tryd.prog N.isthmuslaw04_same #[t50, t51] w k13) w fun t52 w =>
  gd t49 false (fun k14 => o1 Tryd.prog (Op.unary .not t52) w k14) w fun t53 w =>
  pk t49 (.bool true) t53 fun t54 =>
  br t54 (fun _ =>
  mv (.bool false) fun t2_4 =>
  k t2_4 w) (fun _ =>
  mv t3 fun t55 =>
  C Tryd.prog N.files_FS_Start #[t55, .slice none 0 0] w fun t56 w =>
  mv t3 fun t57 =>
  o1 Tryd.prog (Instr.buildSlice 22 1 #[(0, .int .u8 120)]) w fun t58 w =>
  o1 Tryd.prog (convert 22 22 t58) w fun t59 w =>
  C Tryd.prog N.files_FS_Append #[t57, .string ⟨#[111, 116, 104, 101, 114]⟩, t59] w fun t60 w =>
  mv (.pointer none) fun t9 =>
  mv t9 fun t62 =>
  C Tryd.prog N.files_FS_Read #[t62, .string ⟨#[97]⟩] w fun t63 w =>
  mv t63 fun t61 =>
  o1 Tryd.prog (Instr.extract t61 0) w fun t64 w =>
  o1 Tryd.prog (Instr.extract t61 1) w fun t65 w =>
  mv t64 fun t10 =>
  mv t65 fun t11 =>
  mv t8 fun t66 =>
  o1 Tryd.prog (Instr.loadAt 42 t4) w fun t67 w =>
  C Tryd.prog N.isthmuslaw04_same #[t66, t67] w fun t68 w =>
  mv t68 fun t69 =>
  gd t69 true (fun k15 => mv t11 fun v => k15 v w) w fun t70 w =>
  gd t69 true (fun k16 => C Tryd.prog N.isthmuslaw04_num #[t70] w k16) w fun t71 w =>
  gd t69 true (fun k17 => o1 Tryd.prog (bin .eql 3 (.tmp 71) (.const (.int .i64 1)) t71 (.int .i64 1)) w k17) w fun t72 w =>
  pk t69 t72 (.bool false) fun t73 =>
  mv t73 fun t74 =>
  gd t74 true (fun k18 => mv t9 fun v => k18 v w) w fun t75 w =>
  gd t74 true (fun k19 => C Tryd.prog N.files_FS_Append #[t75, .string ⟨#[97]⟩, .slice none 0 0] w k19) w fun t76 w =>
  gd t74 true (fun k20 => C Tryd.prog N.isthmuslaw04_num #[t76] w k20) w fun t77 w =>
  gd t74 true (fun k21 => o1 Tryd.prog (bin .eql 3 (.tmp 77) (.const (.int .i64 1)) t77 (.int .i64 1)) w k21) w fun t78 w =>
  pk t74 t78 (.bool false) fun t79 =>
  mv t79 fun t80 =>
  gd t80 true (fun k22 => mv t9 fun v => k22 v w) w fun t81 w =>
  gd t80 true (fun k23 => C Tryd.prog N.files_FS_Sync #[t81, .string ⟨#[97]⟩] w k23) w fun t82 w =>
  gd t80 true (fun k24 => C Tryd.prog N.isthmuslaw04_num #[t82] w k24) w fun t83 w =>
  gd t80 true (fun k25 => o1 Tryd.prog (bin .eql 3 (.tmp 83) (.const (.int .i64 1)) t83 (.int .i64 1)) w k25) w fun t84 w =>
  pk t80 t84 (.bool false) fun t85 =>
  mv t85 fun t86 =>
  gd t86 true (fun k26 => mv t9 fun v => k26 v w) w fun t87 w =>
  gd t86 true (fun k27 => C Tryd.prog N.files_FS_Arm #[t87, .int .i64 1] w k27) w fun t88 w =>
  gd t86 true (fun k28 => C Tryd.prog N.isthmuslaw04_num #[t88] w k28) w fun t89 w =>
  gd t86 true (fun k29 => o1 Tryd.prog (bin .eql 3 (.tmp 89) (.const (.int .i64 1)) t89 (.int .i64 1)) w k29) w fun t90 w =>
  pk t86 t90 (.bool false) fun t91 =>
  mv t91 fun t92 =>
  gd t92 true (fun k30 => mv t9 fun v => k30 v w) w fun t93 w =>
  gd t92 true (fun k31 => C Tryd.prog N.files_FS_Down #[t93] w k31) w fun t94 w =>
  gd t92 true (fun k32 => o1 Tryd.prog (Op.unary .not t94) w k32) w fun t95 w =>
  pk t92 t95 (.bool false) fun t96 =>
  mv t96 fun t97 =>
  gd t97 true (fun k33 => mv t9 fun v => k33 v w) w fun t98 w =>
  gd t97 true (fun k34 => C Tryd.prog N.files_FS_List #[t98] w k34) w fun t99 w =>
  gd t97 true (fun k35 => o1 Tryd.prog (Builtin.len_ #[48] 3 #[t99]) w k35) w fun t100 w =>
  gd t97 true (fun k36 => o1 Tryd.prog (bin .eql 3 (.tmp 100) (.const (.int .i64 0)) t100 (.int .i64 0)) w k36) w fun t101 w =>
  pk t97 t101 (.bool false) fun t102 =>
  mv t102 fun t103 =>
  gd t103 true (fun k37 => mv t9 fun v => k37 v w) w fun t104 w =>
  gd t103 true (fun k38 => C Tryd.prog N.files_FS_Steps #[t104] w k38) w fun t105 w =>
  gd t103 true (fun k39 => o1 Tryd.prog (bin .eql 3 (.tmp 105) (.const (.int .i64 0)) t105 (.int .i64 0)) w k39) w fun t106 w =>
  pk t103 t106 (.bool false) fun t107 =>
  mv t107 fun t108 =>
  gd t108 true (fun k40 => mv t9 fun v => k40 v w) w fun t109 w =>
  gd t108 true (fun k41 => C Tryd.prog N.files_FS_Clone #[t109] w k41) w fun t110 w =>
  gd t108 true (fun k42 => o1 Tryd.prog (bin .eql 23 (.tmp 110) (.const (.pointer none)) t110 (.pointer none)) w k42) w fun t111 w =>
  pk t108 t111 (.bool false) fun t112 =>
  mv t112 fun t113 =>
  gd t113 true (fun k43 => C Tryd.prog N.isthmuslaw04_sure #[] w k43) w fun t114 w =>
  pk t113 t114 (.bool false) fun t115 =>
  mv t115 fun t2_5 =>
  k t2_5 w)
theorem filesRuns_end {A c} (hR : Rel z r) (hT : Ins L errT.it) (hs : Isk.Sep b w (blkI gf T.files_FS (fsV gm z) :: mapI fileF gm z.m :: blkI g4 T.isthmusref04_FS (rfsV r (.slice A r.l.length c)) :: (listF rfF 3 (.slice A r.l.length c) r.l).it :: L)) :
    F.isthmuslaw04_FilesRuns_r (fun v w' => v = .bool true ∧ Isk.Sep b w' L) (.pointer (some ⟨gf, 0, none⟩)) (.pointer (some ⟨g4, 0, none⟩)) (.pointer (some ⟨gf, 0, none⟩)) w := by
  unfold F.isthmuslaw04_FilesRuns_r
  refine cl (files_Clone hs) ?_
  rintro _ w ⟨g2, gm2, rfl, hs⟩
  repeat (first
   | (with_reducible (first | refine st_lens ?_ | refine st_eqls ?_ | refine st_nels ?_ | refine tk_eqls ?_ | refine tk_nels ?_ | refine mv.mk ?_ | refine nk_p ?_ | refine gdT_i ?_ | refine gdT_ft ?_ | refine gdT_tf ?_ | refine gdT_u ?_ | refine gd_u ?_ | refine gd_ft ?_ | refine gd_tf ?_ | refine gd_i ?_ | refine pk_t ?_ | refine pk_f ?_ | refine br_t ?_ | refine br_f ?_ | refine sp_boxa hs fun g w hs => ?_))
   | (with_reducible ((first | apply st_bin | apply st_ext | apply st_len | apply st_un | apply st_conv | apply st_mki | apply st_fld | apply st_cap | apply st_max | apply st_min | apply st_ixv | apply st_mkf); intro k' hk; simp [go_sem, thenR_ok, bin]; refine hk _ _ ?_; clear hk k'))
   | ((with_reducible (first | apply tk_bin | apply tk_ext | apply tk_len | apply tk_un)); (· intro w; simp [go_sem, bin]; rfl))
   | ((with_reducible apply sp_newr hs); (· kernel_rfl); intro g w hs))
  refine sp_loadall hs (.tl (.tl (.tl (.tl .hd)))) (by kernel_rfl) rfl ?_
  repeat (first
   | (with_reducible (first | refine st_lens ?_ | refine st_eqls ?_ | refine st_nels ?_ | refine tk_eqls ?_ | refine tk_nels ?_ | refine mv.mk ?_ | refine nk_p ?_ | refine gdT_i ?_ | refine gdT_ft ?_ | refine gdT_tf ?_ | refine gdT_u ?_ | refine gd_u ?_ | refine gd_ft ?_ | refine gd_tf ?_ | refine gd_i ?_ | refine pk_t ?_ | refine pk_f ?_ | refine br_t ?_ | refine br_f ?_ | refine sp_boxa hs fun g w hs => ?_))
   | (with_reducible ((first | apply st_bin | apply st_ext | apply st_len | apply st_un | apply st_conv | apply st_mki | apply st_fld | apply st_cap | apply st_max | apply st_min | apply st_ixv | apply st_mkf); intro k' hk; simp [go_sem, thenR_ok, bin]; refine hk _ _ ?_; clear hk k'))
   | ((with_reducible (first | apply tk_bin | apply tk_ext | apply tk_len | apply tk_un)); (· intro w; simp [go_sem, bin]; rfl))
   | ((with_reducible apply sp_newr hs); (· kernel_rfl); intro g w hs))
  replace hs := rfs_fact hs (.tl (.tl (.tl (.tl (.tl .hd)))))
  refine cl (isthmuslaw04_same hR (.tl (.tl (.tl (.tl (.tl hT))))) (hs.sbl (.cons (.tl .hd) (.cons (.tl .hd) .all))) .hd) ?_
  rintro _ w ⟨rfl, hs⟩
  repeat (first
   | (with_reducible (first | refine st_lens ?_ | refine st_eqls ?_ | refine st_nels ?_ | refine tk_eqls ?_ | refine tk_nels ?_ | refine mv.mk ?_ | refine nk_p ?_ | refine gdT_i ?_ | refine gdT_ft ?_ | refine gdT_tf ?_ | refine gdT_u ?_ | refine gd_u ?_ | refine gd_ft ?_ | refine gd_tf ?_ | refine gd_i ?_ | refine pk_t ?_ | refine pk_f ?_ | refine br_t ?_ | refine br_f ?_ | refine sp_boxa hs fun g w hs => ?_))
   | (with_reducible ((first | apply st_bin | apply st_ext | apply st_len | apply st_un | apply st_conv | apply st_mki | apply st_fld | apply st_cap | apply st_max | apply st_min | apply st_ixv | apply st_mkf); intro k' hk; simp [go_sem, thenR_ok, bin]; refine hk _ _ ?_; clear hk k'))
   | ((with_reducible (first | apply tk_bin | apply tk_ext | apply tk_len | apply tk_un)); (· intro w; simp [go_sem, bin]; rfl))
   | ((with_reducible apply sp_newr hs); (· kernel_rfl); intro g w hs))
  replace hs := (hs.nilF iF 1).sbl (L' := blkI gf T.files_FS (fsV gm z) :: mapI fileF gm z.m :: (listF iF 1 (.slice none 0 0) []).it :: blkI g2 T.files_FS (fsV gm2 z) :: mapI fileF gm2 z.m :: (rfsF (rfsV r (.slice A r.l.length c)) r).it :: blkI g4 T.isthmusref04_FS (rfsV r (.slice A r.l.length c)) :: (listF rfF 3 (.slice A r.l.length c) r.l).it :: L) (.cons (.tl (.tl (.tl (.tl .hd)))) (.cons (.tl (.tl (.tl (.tl .hd)))) (.cons .hd (.cons .hd (.cons .hd (.cons .hd .all))))))
  refine cl (files_Start (keep := []) hs .hd hR.ok.m (Nat.le_trans hR.ok.n (by decide))) ?_
  rintro _ w ⟨rfl, hs⟩
  repeat with_reducible refine mv.mk ?_
  refine sp_blit hs fbT u8T [120] rfl rfl (by decide) (by decide) fun v1 w hs => ?_
  replace hs := hs.sbl (.cons (.tl .hd) (.cons (.tl .hd) .all))
  refine cl (files_AppendS (name := otN) (hR.start []).ok hs (by decide) .hd (by decide)) ?_
  rintro e0 w hs
  replace hs := hs.sbl (L' := blkI g2 T.files_FS (fsV gm2 z) :: mapI fileF gm2 z.m :: (rfsF (rfsV r (.slice A r.l.length c)) r).it :: blkI g4 T.isthmusref04_FS (rfsV r (.slice A r.l.length c)) :: L) (.drop (.drop (.drop (.drop (.drop (.cons .hd (.cons .hd (.cons .hd (.cons .hd (.drop .all))))))))))
  repeat with_reducible refine mv.mk ?_
  refine cl (files_Read_nil (name := aN) hs (by decide)) ?_
  rintro _ w ⟨v2, e1, rfl, hs⟩
  repeat (first
   | (with_reducible (first | refine st_lens ?_ | refine st_eqls ?_ | refine st_nels ?_ | refine tk_eqls ?_ | refine tk_nels ?_ | refine mv.mk ?_ | refine nk_p ?_ | refine gdT_i ?_ | refine gdT_ft ?_ | refine gdT_tf ?_ | refine gdT_u ?_ | refine gd_u ?_ | refine gd_ft ?_ | refine gd_tf ?_ | refine gd_i ?_ | refine pk_t ?_ | refine pk_f ?_ | refine br_t ?_ | refine br_f ?_ | refine sp_boxa hs fun g w hs => ?_))
   | (with_reducible ((first | apply st_bin | apply st_ext | apply st_len | apply st_un | apply st_conv | apply st_mki | apply st_fld | apply st_cap | apply st_max | apply st_min | apply st_ixv | apply st_mkf); intro k' hk; simp [go_sem, thenR_ok, bin]; refine hk _ _ ?_; clear hk k'))
   | ((with_reducible (first | apply tk_bin | apply tk_ext | apply tk_len | apply tk_un)); (· intro w; simp [go_sem, bin]; rfl))
   | ((with_reducible apply sp_newr hs); (· kernel_rfl); intro g w hs))
  refine sp_loadall hs (.tl (.tl (.tl (.tl .hd)))) (by kernel_rfl) rfl ?_
  repeat with_reducible refine mv.mk ?_
  refine cl (isthmuslaw04_same hR (.tl (.tl (.tl hT))) (hs.sbl (.cons (.tl .hd) (.cons (.tl .hd) .all))) (.tl .hd)) ?_
  rintro _ w ⟨rfl, hs⟩
  repeat (first
   | (with_reducible (first | refine st_lens ?_ | refine st_eqls ?_ | refine st_nels ?_ | refine tk_eqls ?_ | refine tk_nels ?_ | refine mv.mk ?_ | refine nk_p ?_ | refine gdT_i ?_ | refine gdT_ft ?_ | refine gdT_tf ?_ | refine gdT_u ?_ | refine gd_u ?_ | refine gd_ft ?_ | refine gd_tf ?_ | refine gd_i ?_ | refine pk_t ?_ | refine pk_f ?_ | refine br_t ?_ | refine br_f ?_ | refine sp_boxa hs fun g w hs => ?_))
   | (with_reducible ((first | apply st_bin | apply st_ext | apply st_len | apply st_un | apply st_conv | apply st_mki | apply st_fld | apply st_cap | apply st_max | apply st_min | apply st_ixv | apply st_mkf); intro k' hk; simp [go_sem, thenR_ok, bin]; refine hk _ _ ?_; clear hk k'))
   | ((with_reducible (first | apply tk_bin | apply tk_ext | apply tk_len | apply tk_un)); (· intro w; simp [go_sem, bin]; rfl))
   | ((with_reducible apply sp_newr hs); (· kernel_rfl); intro g w hs))
  refine cl (isthmuslaw04_num hs (.tl (.tl (.tl (.tl (.tl hT))))) (.tl (.tl .hd))) ?_
  rintro _ w ⟨rfl, hs⟩
  replace hs := hs.sbl (L' := L) (.drop (.drop (.drop (.drop (.drop .all)))))
  repeat (first
   | (with_reducible (first | refine st_lens ?_ | refine st_eqls ?_ | refine st_nels ?_ | refine tk_eqls ?_ | refine tk_nels ?_ | refine mv.mk ?_ | refine nk_p ?_ | refine gdT_i ?_ | refine gdT_ft ?_ | refine gdT_tf ?_ | refine gdT_u ?_ | refine gd_u ?_ | refine gd_ft ?_ | refine gd_tf ?_ | refine gd_i ?_ | refine pk_t ?_ | refine pk_f ?_ | refine br_t ?_ | refine br_f ?_ | refine sp_boxa hs fun g w hs => ?_))
   | (with_reducible ((first | apply st_bin | apply st_ext | apply st_len | apply st_un | apply st_conv | apply st_mki | apply st_fld | apply st_cap | apply st_max | apply st_min | apply st_ixv | apply st_mkf); intro k' hk; simp [go_sem, thenR_ok, bin]; refine hk _ _ ?_; clear hk k'))
   | ((with_reducible (first | apply tk_bin | apply tk_ext | apply tk_len | apply tk_un)); (· intro w; simp [go_sem, bin]; rfl))
   | ((with_reducible apply sp_newr hs); (· kernel_rfl); intro g w hs))
  refine cl (files_Append_nil (name := aN) hs (by decide)) ?_
  rintro e2 w hs
  repeat (first
   | (with_reducible (first | refine st_lens ?_ | refine st_eqls ?_ | refine st_nels ?_ | refine tk_eqls ?_ | refine tk_nels ?_ | refine mv.mk ?_ | refine nk_p ?_ | refine gdT_i ?_ | refine gdT_ft ?_ | refine gdT_tf ?_ | refine gdT_u ?_ | refine gd_u ?_ | refine gd_ft ?_ | refine gd_tf ?_ | refine gd_i ?_ | refine pk_t ?_ | refine pk_f ?_ | refine br_t ?_ | refine br_f ?_ | refine sp_boxa hs fun g w hs => ?_))
   | (with_reducible ((first | apply st_bin | apply st_ext | apply st_len | apply st_un | apply st_conv | apply st_mki | apply st_fld | apply st_cap | apply st_max | apply st_min | apply st_ixv | apply st_mkf); intro k' hk; simp [go_sem, thenR_ok, bin]; refine hk _ _ ?_; clear hk k'))
   | ((with_reducible (first | apply tk_bin | apply tk_ext | apply tk_len | apply tk_un)); (· intro w; simp [go_sem, bin]; rfl))
   | ((with_reducible apply sp_newr hs); (· kernel_rfl); intro g w hs))
  refine cl (isthmuslaw04_num hs (.tl hT) .hd) ?_
  rintro _ w ⟨rfl, hs⟩
  replace hs := hs.drop .hd
  repeat (first
   | (with_reducible (first | refine st_lens ?_ | refine st_eqls ?_ | refine st_nels ?_ | refine tk_eqls ?_ | refine tk_nels ?_ | refine mv.mk ?_ | refine nk_p ?_ | refine gdT_i ?_ | refine gdT_ft ?_ | refine gdT_tf ?_ | refine gdT_u ?_ | refine gd_u ?_ | refine gd_ft ?_ | refine gd_tf ?_ | refine gd_i ?_ | refine pk_t ?_ | refine pk_f ?_ | refine br_t ?_ | refine br_f ?_ | refine sp_boxa hs fun g w hs => ?_))
   | (with_reducible ((first | apply st_bin | apply st_ext | apply st_len | apply st_un | apply st_conv | apply st_mki | apply st_fld | apply st_cap | apply st_max | apply st_min | apply st_ixv | apply st_mkf); intro k' hk; simp [go_sem, thenR_ok, bin]; refine hk _ _ ?_; clear hk k'))
   | ((with_reducible (first | apply tk_bin | apply tk_ext | apply tk_len | apply tk_un)); (· intro w; simp [go_sem, bin]; rfl))
   | ((with_reducible apply sp_newr hs); (· kernel_rfl); intro g w hs))
  refine cl (files_Sync_nil (name := aN) hs (by decide)) ?_
  rintro e2 w hs
  repeat (first
   | (with_reducible (first | refine st_lens ?_ | refine st_eqls ?_ | refine st_nels ?_ | refine tk_eqls ?_ | refine tk_nels ?_ | refine mv.mk ?_ | refine nk_p ?_ | refine gdT_i ?_ | refine gdT_ft ?_ | refine gdT_tf ?_ | refine gdT_u ?_ | refine gd_u ?_ | refine gd_ft ?_ | refine gd_tf ?_ | refine gd_i ?_ | refine pk_t ?_ | refine pk_f ?_ | refine br_t ?_ | refine br_f ?_ | refine sp_boxa hs fun g w hs => ?_))
   | (with_reducible ((first | apply st_bin | apply st_ext | apply st_len | apply st_un | apply st_conv | apply st_mki | apply st_fld | apply st_cap | apply st_max | apply st_min | apply st_ixv | apply st_mkf); intro k' hk; simp [go_sem, thenR_ok, bin]; refine hk _ _ ?_; clear hk k'))
   | ((with_reducible (first | apply tk_bin | apply tk_ext | apply tk_len | apply tk_un)); (· intro w; simp [go_sem, bin]; rfl))
   | ((with_reducible apply sp_newr hs); (· kernel_rfl); intro g w hs))
  refine cl (isthmuslaw04_num hs (.tl hT) .hd) ?_
  rintro _ w ⟨rfl, hs⟩
  replace hs := hs.drop .hd
  repeat (first
   | (with_reducible (first | refine st_lens ?_ | refine st_eqls ?_ | refine st_nels ?_ | refine tk_eqls ?_ | refine tk_nels ?_ | refine mv.mk ?_ | refine nk_p ?_ | refine gdT_i ?_ | refine gdT_ft ?_ | refine gdT_tf ?_ | refine gdT_u ?_ | refine gd_u ?_ | refine gd_ft ?_ | refine gd_tf ?_ | refine gd_i ?_ | refine pk_t ?_ | refine pk_f ?_ | refine br_t ?_ | refine br_f ?_ | refine sp_boxa hs fun g w hs => ?_))
   | (with_reducible ((first | apply st_bin | apply st_ext | apply st_len | apply st_un | apply st_conv | apply st_mki | apply st_fld | apply st_cap | apply st_max | apply st_min | apply st_ixv | apply st_mkf); intro k' hk; simp [go_sem, thenR_ok, bin]; refine hk _ _ ?_; clear hk k'))
   | ((with_reducible (first | apply tk_bin | apply tk_ext | apply tk_len | apply tk_un)); (· intro w; simp [go_sem, bin]; rfl))
   | ((with_reducible apply sp_newr hs); (· kernel_rfl); intro g w hs))
  refine cl (files_Arm_nil hs) ?_
  rintro e2 w hs
  repeat (first
   | (with_reducible (first | refine st_lens ?_ | refine st_eqls ?_ | refine st_nels ?_ | refine tk_eqls ?_ | refine tk_nels ?_ | refine mv.mk ?_ | refine nk_p ?_ | refine gdT_i ?_ | refine gdT_ft ?_ | refine gdT_tf ?_ | refine gdT_u ?_ | refine gd_u ?_ | refine gd_ft ?_ | refine gd_tf ?_ | refine gd_i ?_ | refine pk_t ?_ | refine pk_f ?_ | refine br_t ?_ | refine br_f ?_ | refine sp_boxa hs fun g w hs => ?_))
   | (with_reducible ((first | apply st_bin | apply st_ext | apply st_len | apply st_un | apply st_conv | apply st_mki | apply st_fld | apply st_cap | apply st_max | apply st_min | apply st_ixv | apply st_mkf); intro k' hk; simp [go_sem, thenR_ok, bin]; refine hk _ _ ?_; clear hk k'))
   | ((with_reducible (first | apply tk_bin | apply tk_ext | apply tk_len | apply tk_un)); (· intro w; simp [go_sem, bin]; rfl))
   | ((with_reducible apply sp_newr hs); (· kernel_rfl); intro g w hs))
  refine cl (isthmuslaw04_num hs (.tl hT) .hd) ?_
  rintro _ w ⟨rfl, hs⟩
  replace hs := hs.drop .hd
  repeat (first
   | (with_reducible (first | refine st_lens ?_ | refine st_eqls ?_ | refine st_nels ?_ | refine tk_eqls ?_ | refine tk_nels ?_ | refine mv.mk ?_ | refine nk_p ?_ | refine gdT_i ?_ | refine gdT_ft ?_ | refine gdT_tf ?_ | refine gdT_u ?_ | refine gd_u ?_ | refine gd_ft ?_ | refine gd_tf ?_ | refine gd_i ?_ | refine pk_t ?_ | refine pk_f ?_ | refine br_t ?_ | refine br_f ?_ | refine sp_boxa hs fun g w hs => ?_))
   | (with_reducible ((first | apply st_bin | apply st_ext | apply st_len | apply st_un | apply st_conv | apply st_mki | apply st_fld | apply st_cap | apply st_max | apply st_min | apply st_ixv | apply st_mkf); intro k' hk; simp [go_sem, thenR_ok, bin]; refine hk _ _ ?_; clear hk k'))
   | ((with_reducible (first | apply tk_bin | apply tk_ext | apply tk_len | apply tk_un)); (· intro w; simp [go_sem, bin]; rfl))
   | ((with_reducible apply sp_newr hs); (· kernel_rfl); intro g w hs))
  refine cl (files_Down_nil hs) ?_
  rintro _ w ⟨rfl, hs⟩
  repeat (first
   | (with_reducible (first | refine st_lens ?_ | refine st_eqls ?_ | refine st_nels ?_ | refine tk_eqls ?_ | refine tk_nels ?_ | refine mv.mk ?_ | refine nk_p ?_ | refine gdT_i ?_ | refine gdT_ft ?_ | refine gdT_tf ?_ | refine gdT_u ?_ | refine gd_u ?_ | refine gd_ft ?_ | refine gd_tf ?_ | refine gd_i ?_ | refine pk_t ?_ | refine pk_f ?_ | refine br_t ?_ | refine br_f ?_ | refine sp_boxa hs fun g w hs => ?_))
   | (with_reducible ((first | apply st_bin | apply st_ext | apply st_len | apply st_un | apply st_conv | apply st_mki | apply st_fld | apply st_cap | apply st_max | apply st_min | apply st_ixv | apply st_mkf); intro k' hk; simp [go_sem, thenR_ok, bin]; refine hk _ _ ?_; clear hk k'))
   | ((with_reducible (first | apply tk_bin | apply tk_ext | apply tk_len | apply tk_un)); (· intro w; simp [go_sem, bin]; rfl))
   | ((with_reducible apply sp_newr hs); (· kernel_rfl); intro g w hs))
  refine cl (files_List_nil hs) ?_
  rintro _ w ⟨rfl, hs⟩
  repeat (first
   | (with_reducible (first | refine st_lens ?_ | refine st_eqls ?_ | refine st_nels ?_ | refine tk_eqls ?_ | refine tk_nels ?_ | refine mv.mk ?_ | refine nk_p ?_ | refine gdT_i ?_ | refine gdT_ft ?_ | refine gdT_tf ?_ | refine gdT_u ?_ | refine gd_u ?_ | refine gd_ft ?_ | refine gd_tf ?_ | refine gd_i ?_ | refine pk_t ?_ | refine pk_f ?_ | refine br_t ?_ | refine br_f ?_ | refine sp_boxa hs fun g w hs => ?_))
   | (with_reducible ((first | apply st_bin | apply st_ext | apply st_len | apply st_un | apply st_conv | apply st_mki | apply st_fld | apply st_cap | apply st_max | apply st_min | apply st_ixv | apply st_mkf); intro k' hk; simp [go_sem, thenR_ok, bin]; refine hk _ _ ?_; clear hk k'))
   | ((with_reducible (first | apply tk_bin | apply tk_ext | apply tk_len | apply tk_un)); (· intro w; simp [go_sem, bin]; rfl))
   | ((with_reducible apply sp_newr hs); (· kernel_rfl); intro g w hs))
  refine cl (files_Steps_nil hs) ?_
  rintro _ w ⟨rfl, hs⟩
  repeat (first
   | (with_reducible (first | refine st_lens ?_ | refine st_eqls ?_ | refine st_nels ?_ | refine tk_eqls ?_ | refine tk_nels ?_ | refine mv.mk ?_ | refine nk_p ?_ | refine gdT_i ?_ | refine gdT_ft ?_ | refine gdT_tf ?_ | refine gdT_u ?_ | refine gd_u ?_ | refine gd_ft ?_ | refine gd_tf ?_ | refine gd_i ?_ | refine pk_t ?_ | refine pk_f ?_ | refine br_t ?_ | refine br_f ?_ | refine sp_boxa hs fun g w hs => ?_))
   | (with_reducible ((first | apply st_bin | apply st_ext | apply st_len | apply st_un | apply st_conv | apply st_mki | apply st_fld | apply st_cap | apply st_max | apply st_min | apply st_ixv | apply st_mkf); intro k' hk; simp [go_sem, thenR_ok, bin]; refine hk _ _ ?_; clear hk k'))
   | ((with_reducible (first | apply tk_bin | apply tk_ext | apply tk_len | apply tk_un)); (· intro w; simp [go_sem, bin]; rfl))
   | ((with_reducible apply sp_newr hs); (· kernel_rfl); intro g w hs))
  refine cl (files_Clone_nil hs) ?_
  rintro _ w ⟨rfl, hs⟩
  repeat (first
   | (with_reducible (first | refine st_lens ?_ | refine st_eqls ?_ | refine st_nels ?_ | refine tk_eqls ?_ | refine tk_nels ?_ | refine mv.mk ?_ | refine nk_p ?_ | refine gdT_i ?_ | refine gdT_ft ?_ | refine gdT_tf ?_ | refine gdT_u ?_ | refine gd_u ?_ | refine gd_ft ?_ | refine gd_tf ?_ | refine gd_i ?_ | refine pk_t ?_ | refine pk_f ?_ | refine br_t ?_ | refine br_f ?_ | refine sp_boxa hs fun g w hs => ?_))
   | (with_reducible ((first | apply st_bin | apply st_ext | apply st_len | apply st_un | apply st_conv | apply st_mki | apply st_fld | apply st_cap | apply st_max | apply st_min | apply st_ixv | apply st_mkf); intro k' hk; simp [go_sem, thenR_ok, bin]; refine hk _ _ ?_; clear hk k'))
   | ((with_reducible (first | apply tk_bin | apply tk_ext | apply tk_len | apply tk_un)); (· intro w; simp [go_sem, bin]; rfl))
   | ((with_reducible apply sp_newr hs); (· kernel_rfl); intro g w hs))
  refine cl (isthmuslaw04_sure hs) ?_
  rintro _ w ⟨rfl, hs⟩
  repeat (first
   | (with_reducible (first | refine st_lens ?_ | refine st_eqls ?_ | refine st_nels ?_ | refine tk_eqls ?_ | refine tk_nels ?_ | refine mv.mk ?_ | refine nk_p ?_ | refine gdT_i ?_ | refine gdT_ft ?_ | refine gdT_tf ?_ | refine gdT_u ?_ | refine gd_u ?_ | refine gd_ft ?_ | refine gd_tf ?_ | refine gd_i ?_ | refine pk_t ?_ | refine pk_f ?_ | refine br_t ?_ | refine br_f ?_ | refine sp_boxa hs fun g w hs => ?_))
   | (with_reducible ((first | apply st_bin | apply st_ext | apply st_len | apply st_un | apply st_conv | apply st_mki | apply st_fld | apply st_cap | apply st_max | apply st_min | apply st_ixv | apply st_mkf); intro k' hk; simp [go_sem, thenR_ok, bin]; refine hk _ _ ?_; clear hk k'))
   | ((with_reducible (first | apply tk_bin | apply tk_ext | apply tk_len | apply tk_un)); (· intro w; simp [go_sem, bin]; rfl))
   | ((with_reducible apply sp_newr hs); (· kernel_rfl); intro g w hs))
  exact ⟨rfl, hs⟩
theorem isthmuslaw04_FilesRuns (hs : Isk.Sep b w L) (hT : Ins L errT.it) (hl : Ins L (listF actF 6 lv l).it) (hB : ∀ x ∈ l, okA x) :
    C Tryd.prog N.isthmuslaw04_FilesRuns #[lv] w fun v w' => v = .bool true ∧ Isk.Sep b w' L := by
  obtain ⟨Al, cl', rfl⟩ := hs.lst_len hl.lst
  refine C.isthmuslaw04_FilesRuns ?_
  unfold F.isthmuslaw04_FilesRuns
  repeat with_reducible refine mv.mk ?_
  refine cl (files_New hs) ?_
  rintro _ w ⟨gf, gm, rfl, hs⟩
  repeat (first
   | (with_reducible (first | refine st_lens ?_ | refine st_eqls ?_ | refine st_nels ?_ | refine tk_eqls ?_ | refine tk_nels ?_ | refine mv.mk ?_ | refine nk_p ?_ | refine gdT_i ?_ | refine gdT_ft ?_ | refine gdT_tf ?_ | refine gdT_u ?_ | refine gd_u ?_ | refine gd_ft ?_ | refine gd_tf ?_ | refine gd_i ?_ | refine pk_t ?_ | refine pk_f ?_ | refine br_t ?_ | refine br_f ?_ | refine sp_boxa hs fun g w hs => ?_))
   | (with_reducible ((first | apply st_bin | apply st_ext | apply st_len | apply st_un | apply st_conv | apply st_mki | apply st_fld | apply st_cap | apply st_max | apply st_min | apply st_ixv | apply st_mkf); intro k' hk; simp [go_sem, thenR_ok, bin]; refine hk _ _ ?_; clear hk k'))
   | ((with_reducible (first | apply tk_bin | apply tk_ext | apply tk_len | apply tk_un)); (· intro w; simp [go_sem, bin]; rfl))
   | ((with_reducible apply sp_newr hs); (· kernel_rfl); intro g w hs))
  refine zero_rfs ?_
  refine sp_newr hs (by kernel_rfl) fun g4 w hs => ?_
  refine sp_setr (ds := rfsV ⟨[], 0, false, 0, false⟩ (.slice none 0 0)) hs .hd (by kernel_rfl) rfl (rfsV_one _) fun w hs => ?_
  replace hs := hs.nilF rfF 3
  repeat with_reducible refine mv.mk ?_
  refine lp_by (fun us w' => ∃ (i : Nat) (z : FsD) (r : RFS) (A : Option Addr) (c : Nat) (y : Value), us = [.bool false, .int .i64 (i : Int), y] ∧ i ≤ 120 ∧ Rel z r ∧ Isk.Sep b w' (blkI gf T.files_FS (fsV gm z) :: mapI fileF gm z.m :: blkI g4 T.isthmusref04_FS (rfsV r (.slice A r.l.length c)) :: (listF rfF 3 (.slice A r.l.length c) r.l).it :: L))
    (fun us _ => match us with | [_, .int _ m, _] => 120 - m.toNat | _ => 0) ⟨0, newF, ⟨[], 0, false, 0, false⟩, none, 0, _, rfl, Nat.zero_le _, Rel.new, hs.sbl (.cons (.tl (.tl .hd)) (.cons (.tl (.tl .hd)) (.cons (.tl .hd) (.cons .hd .all))))⟩ ?_
  clear hs
  rintro x1 w ⟨i, z, r, A, c, y, hx1, hi, hR, hs⟩
  simp only [List.cons.injEq, and_true] at hx1
  simp only [hx1.1, hx1.2.1, hx1.2.2]
  repeat (first
   | (with_reducible (first | refine st_lens ?_ | refine st_eqls ?_ | refine st_nels ?_ | refine tk_eqls ?_ | refine tk_nels ?_ | refine mv.mk ?_ | refine nk_p ?_ | refine gdT_i ?_ | refine gdT_ft ?_ | refine gdT_tf ?_ | refine gdT_u ?_ | refine gd_u ?_ | refine gd_ft ?_ | refine gd_tf ?_ | refine gd_i ?_ | refine pk_t ?_ | refine pk_f ?_ | refine br_t ?_ | refine br_f ?_ | refine sp_boxa hs fun g w hs => ?_))
   | (with_reducible ((first | apply st_bin | apply st_ext | apply st_len | apply st_un | apply st_conv | apply st_mki | apply st_fld | apply st_cap | apply st_max | apply st_min | apply st_ixv | apply st_mkf); intro k' hk; simp [go_sem, thenR_ok, bin]; refine hk _ _ ?_; clear hk k'))
   | ((with_reducible (first | apply tk_bin | apply tk_ext | apply tk_len | apply tk_un)); (· intro w; simp [go_sem, bin]; rfl))
   | ((with_reducible apply sp_newr hs); (· kernel_rfl); intro g w hs))
  by_cases h1 : i < l.length ∧ i < 120
  · obtain ⟨h1, h2⟩ := h1
    rw [decide_eq_true h1]
    repeat (first
     | (with_reducible (first | refine st_lens ?_ | refine st_eqls ?_ | refine st_nels ?_ | refine tk_eqls ?_ | refine tk_nels ?_ | refine mv.mk ?_ | refine nk_p ?_ | refine gdT_i ?_ | refine gdT_ft ?_ | refine gdT_tf ?_ | refine gdT_u ?_ | refine gd_u ?_ | refine gd_ft ?_ | refine gd_tf ?_ | refine gd_i ?_ | refine pk_t ?_ | refine pk_f ?_ | refine br_t ?_ | refine br_f ?_ | refine sp_boxa hs fun g w hs => ?_))
     | (with_reducible ((first | apply st_bin | apply st_ext | apply st_len | apply st_un | apply st_conv | apply st_mki | apply st_fld | apply st_cap | apply st_max | apply st_min | apply st_ixv | apply st_mkf); intro k' hk; simp [go_sem, thenR_ok, bin]; refine hk _ _ ?_; clear hk k'))
     | ((with_reducible (first | apply tk_bin | apply tk_ext | apply tk_len | apply tk_un)); (· intro w; simp [go_sem, bin]; rfl))
     | ((with_reducible apply sp_newr hs); (· kernel_rfl); intro g w hs))
    rw [show decide ((i : Int) < 120) = true by simp; omega]
    repeat (first
     | (with_reducible (first | refine st_lens ?_ | refine st_eqls ?_ | refine st_nels ?_ | refine tk_eqls ?_ | refine tk_nels ?_ | refine mv.mk ?_ | refine nk_p ?_ | refine gdT_i ?_ | refine gdT_ft ?_ | refine gdT_tf ?_ | refine gdT_u ?_ | refine gd_u ?_ | refine gd_ft ?_ | refine gd_tf ?_ | refine gd_i ?_ | refine pk_t ?_ | refine pk_f ?_ | refine br_t ?_ | refine br_f ?_ | refine sp_boxa hs fun g w hs => ?_))
     | (with_reducible ((first | apply st_bin | apply st_ext | apply st_len | apply st_un | apply st_conv | apply st_mki | apply st_fld | apply st_cap | apply st_max | apply st_min | apply st_ixv | apply st_mkf); intro k' hk; simp [go_sem, thenR_ok, bin]; refine hk _ _ ?_; clear hk k'))
     | ((with_reducible (first | apply tk_bin | apply tk_ext | apply tk_len | apply tk_un)); (· intro w; simp [go_sem, bin]; rfl))
     | ((with_reducible apply sp_newr hs); (· kernel_rfl); intro g w hs))
    obtain ⟨g1, o1, cs, hix, hcl, hs⟩ := hs.el (P := Tryd.prog) (T := T.sl_isthmuslaw04_Act) (.tl (.tl (.tl (.tl hl)))) acT i h1
    have hBx := hB _ (List.getElem_mem h1)
    have hA := hR.act l[i]
    replace hs := rfs_fact hs (.tl (.tl (.tl (.tl (.tl .hd)))))
    replace hs := hs.drew
    refine dr_can (R := [(rngF g1 o1 cs).it, blkI g4 T.isthmusref04_FS (rfsV r (.slice A r.l.length c))]) hs (.drop (.cons .hd (.drop (.drop (.drop (.cons .hd .nil)))))) ?_
    repeat with_reducible refine mv.mk ?_
    refine tk_ldn hid (.tl .blk) (by kernel_rfl) rfl ?_
    repeat with_reducible refine mv.mk ?_
    refine tk_run (hix .i64) ?_
    refine tk_ldn hid .rng (by kernel_rfl) hcl ?_
    refine ⟨?_, ?_⟩
    · replace hs := hs.sbl (.cons (.tl (.tl (.tl .hd))) (.cons (.tl (.tl (.tl .hd))) .all))
      refine cl (isthmuslaw04_step hR (.tl (.tl (.tl (.tl (.tl hT))))) hs (.tl (.tl .hd)) .hd hBx) ?_
      rintro _ w ⟨ds2, rfl, hs⟩
      refine ⟨hs.mayr (.drop (.drop (.drop (.drop (.cons .hd (.drop (.cons .hd .nil))))))), ?_⟩
      repeat (first
       | (with_reducible (first | refine st_lens ?_ | refine st_eqls ?_ | refine st_nels ?_ | refine tk_eqls ?_ | refine tk_nels ?_ | refine mv.mk ?_ | refine nk_p ?_ | refine gdT_i ?_ | refine gdT_ft ?_ | refine gdT_tf ?_ | refine gdT_u ?_ | refine gd_u ?_ | refine gd_ft ?_ | refine gd_tf ?_ | refine gd_i ?_ | refine pk_t ?_ | refine pk_f ?_ | refine br_t ?_ | refine br_f ?_ | refine sp_boxa hs fun g w hs => ?_))
       | (with_reducible ((first | apply st_bin | apply st_ext | apply st_len | apply st_un | apply st_conv | apply st_mki | apply st_fld | apply st_cap | apply st_max | apply st_min | apply st_ixv | apply st_mkf); intro k' hk; simp [go_sem, thenR_ok, bin]; refine hk _ _ ?_; clear hk k'))
       | ((with_reducible (first | apply tk_bin | apply tk_ext | apply tk_len | apply tk_un)); (· intro w; simp [go_sem, bin]; rfl))
       | ((with_reducible apply sp_newr hs); (· kernel_rfl); intro g w hs))
      refine ⟨hs.mayr (.drop (.drop (.drop (.drop (.drop (.cons .hd (.drop (.cons .hd .nil)))))))), ?_⟩
      replace hs := hs.sbl (.cons (.tl .hd) .all)
      refine rfs_new hs .hd fun A2 c2 w hs => ?_
      refine ⟨hs.mayr (.drop (.drop (.drop (.drop (.drop (.cons .hd (.drop (.cons .hd .nil)))))))), ?_⟩
      repeat with_reducible refine mv.mk ?_
      refine sp_loadall hs .hd (by kernel_rfl) rfl ?_
      refine sp_whole hs (.tl (.tl (.tl (.tl (.tl (.tl (.tl .hd))))))) (by kernel_rfl) rfl rfl (rfsV_one _) fun w hs => ?_
      replace hs := hs.sbl (L' := blkI gf T.files_FS (fsV gm (stepZ z l[i]).1) :: mapI fileF gm (stepZ z l[i]).1.m :: blkI g4 T.isthmusref04_FS (rfsV (stepD r l[i]).1 (.slice A2 (stepD r l[i]).1.l.length c2)) :: (listF rfF 3 (.slice A2 (stepD r l[i]).1.l.length c2) (stepD r l[i]).1.l).it :: L) (.cons (.tl (.tl (.tl .hd))) (.cons (.tl (.tl (.tl .hd))) (.cons .hd (.drop (.cons .hd (.drop (.drop (.drop (.drop .all)))))))))
      repeat (first
       | (with_reducible (first | refine st_lens ?_ | refine st_eqls ?_ | refine st_nels ?_ | refine tk_eqls ?_ | refine tk_nels ?_ | refine mv.mk ?_ | refine nk_p ?_ | refine gdT_i ?_ | refine gdT_ft ?_ | refine gdT_tf ?_ | refine gdT_u ?_ | refine gd_u ?_ | refine gd_ft ?_ | refine gd_tf ?_ | refine gd_i ?_ | refine pk_t ?_ | refine pk_f ?_ | refine br_t ?_ | refine br_f ?_ | refine sp_boxa hs fun g w hs => ?_))
       | (with_reducible ((first | apply st_bin | apply st_ext | apply st_len | apply st_un | apply st_conv | apply st_mki | apply st_fld | apply st_cap | apply st_max | apply st_min | apply st_ixv | apply st_mkf); intro k' hk; simp [go_sem, thenR_ok, bin]; refine hk _ _ ?_; clear hk k'))
       | ((with_reducible (first | apply tk_bin | apply tk_ext | apply tk_len | apply tk_un)); (· intro w; simp [go_sem, bin]; rfl))
       | ((with_reducible apply sp_newr hs); (· kernel_rfl); intro g w hs))
      refine sp_loadall hs (.tl (.tl .hd)) (by kernel_rfl) rfl ?_
      repeat (first
       | (with_reducible (first | refine st_lens ?_ | refine st_eqls ?_ | refine st_nels ?_ | refine tk_eqls ?_ | refine tk_nels ?_ | refine mv.mk ?_ | refine nk_p ?_ | refine gdT_i ?_ | refine gdT_ft ?_ | refine gdT_tf ?_ | refine gdT_u ?_ | refine gd_u ?_ | refine gd_ft ?_ | refine gd_tf ?_ | refine gd_i ?_ | refine pk_t ?_ | refine pk_f ?_ | refine br_t ?_ | refine br_f ?_ | refine sp_boxa hs fun g w hs => ?_))
       | (with_reducible ((first | apply st_bin | apply st_ext | apply st_len | apply st_un | apply st_conv | apply st_mki | apply st_fld | apply st_cap | apply st_max | apply st_min | apply st_ixv | apply st_mkf); intro k' hk; simp [go_sem, thenR_ok, bin]; refine hk _ _ ?_; clear hk k'))
       | ((with_reducible (first | apply tk_bin | apply tk_ext | apply tk_len | apply tk_un)); (· intro w; simp [go_sem, bin]; rfl))
       | ((with_reducible apply sp_newr hs); (· kernel_rfl); intro g w hs))
      replace hs := rfs_fact hs (.tl (.tl (.tl .hd)))
      refine cl (isthmuslaw04_same hA.1 (.tl (.tl (.tl hT))) (hs.sbl (.cons (.tl .hd) (.cons (.tl .hd) .all))) .hd) ?_
      rintro _ w ⟨rfl, hs⟩
      repeat (first
       | (with_reducible (first | refine st_lens ?_ | refine st_eqls ?_ | refine st_nels ?_ | refine tk_eqls ?_ | refine tk_nels ?_ | refine mv.mk ?_ | refine nk_p ?_ | refine gdT_i ?_ | refine gdT_ft ?_ | refine gdT_tf ?_ | refine gdT_u ?_ | refine gd_u ?_ | refine gd_ft ?_ | refine gd_tf ?_ | refine gd_i ?_ | refine pk_t ?_ | refine pk_f ?_ | refine br_t ?_ | refine br_f ?_ | refine sp_boxa hs fun g w hs => ?_))
       | (with_reducible ((first | apply st_bin | apply st_ext | apply st_len | apply st_un | apply st_conv | apply st_mki | apply st_fld | apply st_cap | apply st_max | apply st_min | apply st_ixv | apply st_mkf); intro k' hk; simp [go_sem, thenR_ok, bin]; refine hk _ _ ?_; clear hk k'))
       | ((with_reducible (first | apply tk_bin | apply tk_ext | apply tk_len | apply tk_un)); (· intro w; simp [go_sem, bin]; rfl))
       | ((with_reducible apply sp_newr hs); (· kernel_rfl); intro g w hs))
      rw [i64_succ (by omega)]
      exact ⟨⟨i + 1, _, _, A2, c2, _, rfl, by omega, hA.1, hs.sbl (.cons .hd (.cons .hd (.drop .all)))⟩, by simp; omega⟩
    · refine sp_newr hs (by kernel_rfl) fun g7 w hs => ?_
      refine ⟨hs.mayr (.drop (.drop (.cons .hd (.drop (.drop (.drop (.cons .hd .nil))))))), ?_⟩
      replace hs := hs.sbl (.cons (.tl (.tl (.tl (.tl .hd)))) (.cons (.tl (.tl (.tl (.tl .hd)))) .all))
      refine cl (isthmuslaw04_step hR (.tl (.tl (.tl (.tl (.tl (.tl hT)))))) hs (.tl (.tl (.tl .hd))) (.tl .hd) hBx) ?_
      rintro _ w ⟨ds2, rfl, hs⟩
      refine ⟨hs.mayr (.drop (.drop (.drop (.drop (.drop (.cons .hd (.drop (.cons .hd .nil)))))))), ?_⟩
      repeat (first
       | (with_reducible (first | refine st_lens ?_ | refine st_eqls ?_ | refine st_nels ?_ | refine tk_eqls ?_ | refine tk_nels ?_ | refine mv.mk ?_ | refine nk_p ?_ | refine gdT_i ?_ | refine gdT_ft ?_ | refine gdT_tf ?_ | refine gdT_u ?_ | refine gd_u ?_ | refine gd_ft ?_ | refine gd_tf ?_ | refine gd_i ?_ | refine pk_t ?_ | refine pk_f ?_ | refine br_t ?_ | refine br_f ?_ | refine sp_boxa hs fun g w hs => ?_))
       | (with_reducible ((first | apply st_bin | apply st_ext | apply st_len | apply st_un | apply st_conv | apply st_mki | apply st_fld | apply st_cap | apply st_max | apply st_min | apply st_ixv | apply st_mkf); intro k' hk; simp [go_sem, thenR_ok, bin]; refine hk _ _ ?_; clear hk k'))
       | ((with_reducible (first | apply tk_bin | apply tk_ext | apply tk_len | apply tk_un)); (· intro w; simp [go_sem, bin]; rfl))
       | ((with_reducible apply sp_newr hs); (· kernel_rfl); intro g w hs))
      refine rfs_new hs (.tl (.tl .hd)) fun A2 c2 w hs => ?_
      refine ⟨hs.mayr (.drop (.drop (.drop (.drop (.drop (.cons .hd (.drop (.cons .hd .nil)))))))), ?_⟩
      repeat with_reducible refine mv.mk ?_
      refine sp_loadall hs .hd (by kernel_rfl) rfl ?_
      refine sp_whole hs (.tl (.tl (.tl (.tl (.tl (.tl (.tl .hd))))))) (by kernel_rfl) rfl rfl (rfsV_one _) fun w hs => ?_
      replace hs := hs.sbl (L' := blkI gf T.files_FS (fsV gm (stepZ z l[i]).1) :: mapI fileF gm (stepZ z l[i]).1.m :: blkI g4 T.isthmusref04_FS (rfsV (stepD r l[i]).1 (.slice A2 (stepD r l[i]).1.l.length c2)) :: (listF rfF 3 (.slice A2 (stepD r l[i]).1.l.length c2) (stepD r l[i]).1.l).it :: L) (.cons (.tl (.tl (.tl .hd))) (.cons (.tl (.tl (.tl .hd))) (.cons .hd (.drop (.cons .hd (.drop (.drop (.drop (.drop .all)))))))))
      repeat (first
       | (with_reducible (first | refine st_lens ?_ | refine st_eqls ?_ | refine st_nels ?_ | refine tk_eqls ?_ | refine tk_nels ?_ | refine mv.mk ?_ | refine nk_p ?_ | refine gdT_i ?_ | refine gdT_ft ?_ | refine gdT_tf ?_ | refine gdT_u ?_ | refine gd_u ?_ | refine gd_ft ?_ | refine gd_tf ?_ | refine gd_i ?_ | refine pk_t ?_ | refine pk_f ?_ | refine br_t ?_ | refine br_f ?_ | refine sp_boxa hs fun g w hs => ?_))
       | (with_reducible ((first | apply st_bin | apply st_ext | apply st_len | apply st_un | apply st_conv | apply st_mki | apply st_fld | apply st_cap | apply st_max | apply st_min | apply st_ixv | apply st_mkf); intro k' hk; simp [go_sem, thenR_ok, bin]; refine hk _ _ ?_; clear hk k'))
       | ((with_reducible (first | apply tk_bin | apply tk_ext | apply tk_len | apply tk_un)); (· intro w; simp [go_sem, bin]; rfl))
       | ((with_reducible apply sp_newr hs); (· kernel_rfl); intro g w hs))
      refine sp_loadall hs (.tl (.tl .hd)) (by kernel_rfl) rfl ?_
      repeat (first
       | (with_reducible (first | refine st_lens ?_ | refine st_eqls ?_ | refine st_nels ?_ | refine tk_eqls ?_ | refine tk_nels ?_ | refine mv.mk ?_ | refine nk_p ?_ | refine gdT_i ?_ | refine gdT_ft ?_ | refine gdT_tf ?_ | refine gdT_u ?_ | refine gd_u ?_ | refine gd_ft ?_ | refine gd_tf ?_ | refine gd_i ?_ | refine pk_t ?_ | refine pk_f ?_ | refine br_t ?_ | refine br_f ?_ | refine sp_boxa hs fun g w hs => ?_))
       | (with_reducible ((first | apply st_bin | apply st_ext | apply st_len | apply st_un | apply st_conv | apply st_mki | apply st_fld | apply st_cap | apply st_max | apply st_min | apply st_ixv | apply st_mkf); intro k' hk; simp [go_sem, thenR_ok, bin]; refine hk _ _ ?_; clear hk k'))
       | ((with_reducible (first | apply tk_bin | apply tk_ext | apply tk_len | apply tk_un)); (· intro w; simp [go_sem, bin]; rfl))
       | ((with_reducible apply sp_newr hs); (· kernel_rfl); intro g w hs))
      replace hs := rfs_fact hs (.tl (.tl (.tl .hd)))
      refine cl (isthmuslaw04_same hA.1 (.tl (.tl (.tl hT))) (hs.sbl (.cons (.tl .hd) (.cons (.tl .hd) .all))) .hd) ?_
      rintro _ w ⟨rfl, hs⟩
      repeat (first
       | (with_reducible (first | refine st_lens ?_ | refine st_eqls ?_ | refine st_nels ?_ | refine tk_eqls ?_ | refine tk_nels ?_ | refine mv.mk ?_ | refine nk_p ?_ | refine gdT_i ?_ | refine gdT_ft ?_ | refine gdT_tf ?_ | refine gdT_u ?_ | refine gd_u ?_ | refine gd_ft ?_ | refine gd_tf ?_ | refine gd_i ?_ | refine pk_t ?_ | refine pk_f ?_ | refine br_t ?_ | refine br_f ?_ | refine sp_boxa hs fun g w hs => ?_))
       | (with_reducible ((first | apply st_bin | apply st_ext | apply st_len | apply st_un | apply st_conv | apply st_mki | apply st_fld | apply st_cap | apply st_max | apply st_min | apply st_ixv | apply st_mkf); intro k' hk; simp [go_sem, thenR_ok, bin]; refine hk _ _ ?_; clear hk k'))
       | ((with_reducible (first | apply tk_bin | apply tk_ext | apply tk_len | apply tk_un)); (· intro w; simp [go_sem, bin]; rfl))
       | ((with_reducible apply sp_newr hs); (· kernel_rfl); intro g w hs))
      rw [i64_succ (by omega)]
      exact ⟨⟨i + 1, _, _, A2, c2, _, rfl, by omega, hA.1, hs.sbl (.cons .hd (.cons .hd (.drop .all)))⟩, by simp; omega⟩
  · by_cases h2 : i < l.length
    · rw [decide_eq_true h2]
      repeat (first
       | (with_reducible (first | refine st_lens ?_ | refine st_eqls ?_ | refine st_nels ?_ | refine tk_eqls ?_ | refine tk_nels ?_ | refine mv.mk ?_ | refine nk_p ?_ | refine gdT_i ?_ | refine gdT_ft ?_ | refine gdT_tf ?_ | refine gdT_u ?_ | refine gd_u ?_ | refine gd_ft ?_ | refine gd_tf ?_ | refine gd_i ?_ | refine pk_t ?_ | refine pk_f ?_ | refine br_t ?_ | refine br_f ?_ | refine sp_boxa hs fun g w hs => ?_))
       | (with_reducible ((first | apply st_bin | apply st_ext | apply st_len | apply st_un | apply st_conv | apply st_mki | apply st_fld | apply st_cap | apply st_max | apply st_min | apply st_ixv | apply st_mkf); intro k' hk; simp [go_sem, thenR_ok, bin]; refine hk _ _ ?_; clear hk k'))
       | ((with_reducible (first | apply tk_bin | apply tk_ext | apply tk_len | apply tk_un)); (· intro w; simp [go_sem, bin]; rfl))
       | ((with_reducible apply sp_newr hs); (· kernel_rfl); intro g w hs))
      rw [show decide ((i : Int) < 120) = false by simp; omega]
      repeat (first
       | (with_reducible (first | refine st_lens ?_ | refine st_eqls ?_ | refine st_nels ?_ | refine tk_eqls ?_ | refine tk_nels ?_ | refine mv.mk ?_ | refine nk_p ?_ | refine gdT_i ?_ | refine gdT_ft ?_ | refine gdT_tf ?_ | refine gdT_u ?_ | refine gd_u ?_ | refine gd_ft ?_ | refine gd_tf ?_ | refine gd_i ?_ | refine pk_t ?_ | refine pk_f ?_ | refine br_t ?_ | refine br_f ?_ | refine sp_boxa hs fun g w hs => ?_))
       | (with_reducible ((first | apply st_bin | apply st_ext | apply st_len | apply st_un | apply st_conv | apply st_mki | apply st_fld | apply st_cap | apply st_max | apply st_min | apply st_ixv | apply st_mkf); intro k' hk; simp [go_sem, thenR_ok, bin]; refine hk _ _ ?_; clear hk k'))
       | ((with_reducible (first | apply tk_bin | apply tk_ext | apply tk_len | apply tk_un)); (· intro w; simp [go_sem, bin]; rfl))
       | ((with_reducible apply sp_newr hs); (· kernel_rfl); intro g w hs))
      exact filesRuns_end hR hT hs
    · rw [decide_eq_false h2]
      repeat (first
       | (with_reducible (first | refine st_lens ?_ | refine st_eqls ?_ | refine st_nels ?_ | refine tk_eqls ?_ | refine tk_nels ?_ | refine mv.mk ?_ | refine nk_p ?_ | refine gdT_i ?_ | refine gdT_ft ?_ | refine gdT_tf ?_ | refine gdT_u ?_ | refine gd_u ?_ | refine gd_ft ?_ | refine gd_tf ?_ | refine gd_i ?_ | refine pk_t ?_ | refine pk_f ?_ | refine br_t ?_ | refine br_f ?_ | refine sp_boxa hs fun g w hs => ?_))
       | (with_reducible ((first | apply st_bin | apply st_ext | apply st_len | apply st_un | apply st_conv | apply st_mki | apply st_fld | apply st_cap | apply st_max | apply st_min | apply st_ixv | apply st_mkf); intro k' hk; simp [go_sem, thenR_ok, bin]; refine hk _ _ ?_; clear hk k'))
       | ((with_reducible (first | apply tk_bin | apply tk_ext | apply tk_len | apply tk_un)); (· intro w; simp [go_sem, bin]; rfl))
       | ((with_reducible apply sp_newr hs); (· kernel_rfl); intro g w hs))
      exact filesRuns_end hR hT hs
end
end Go.Proofs.YtiaiglgfangedaaDoor
set_option linter.unusedVariables false
set_option linter.unusedSimpArgs false
set_option linter.unusedSectionVars false
namespace Go.Proofs.YtiaiglgfangedaaDoor
open Go Go.Isk Go.RowKit
set_option maxRecDepth 20000
section
variable {b : Base} {w : World} {L R M : List It} {g gf gm g2 gm2 g4 g5 g6 g9 : Nat} {v sv kv dv lv mv' e : Value} {cs ds : List Value} {z Z : FsD} {r Q : RFS} {x : ActD} {l l2 : List ActD} {k : Value → World → Prop}
end
end Go.Proofs.YtiaiglgfangedaaDoor
set_option linter.unusedVariables false
set_option linter.unusedSimpArgs false
set_option linter.unusedSectionVars false
namespace Go.Proofs.YtiaiglgfangedaaDoor
open Go Go.Isk Go.RowKit
theorem okA_of {l : List ActD} (h : (l.map fun x : ActD => max (max (x.name.length + 1) (x.now.length + 1)) (max (x.data.length + 1) (x.keep.length + 1))).sum + 1 ≤ 1048576) : ∀ x ∈ l, okA x := fun x hx => by
  have h1 : max (max (x.name.length + 1) (x.now.length + 1)) (max (x.data.length + 1) (x.keep.length + 1)) ≤ (l.map fun x : ActD => max (max (x.name.length + 1) (x.now.length + 1)) (max (x.data.length + 1) (x.keep.length + 1))).sum := by
    clear h
    induction l with
    | nil => cases hx
    | cons y l ih =>
      simp only [List.map_cons, List.sum_cons]
      rcases List.mem_cons.1 hx with rfl | hx
      · omega
      · have := ih hx
        omega
  unfold okA
  omega
theorem filesRunsW {b : Base} {w : World} {L : List It} {lv : Value} {l : List ActD} (hs : Isk.Sep b w L) (hT : Ins L errT.it) (hl : Ins L (listF actF 6 lv l).it) (hB : (l.map fun x : ActD => max (max (x.name.length + 1) (x.now.length + 1)) (max (x.data.length + 1) (x.keep.length + 1))).sum + 1 ≤ 1048576) :
    C Tryd.prog N.isthmuslaw04_FilesRuns #[lv] w fun r w' => r = .bool true ∧ Isk.Sep b w' L := isthmuslaw04_FilesRuns hs hT hl (okA_of hB)
end Go.Proofs.YtiaiglgfangedaaDoor
