/- files: FilesRuns. -/
import Derived.Test.YtiaiglgfangedaaDoorGC
import Derived.Test.YtiaiglgfangedaaDoorFP
set_option linter.unusedVariables false
set_option linter.unusedSimpArgs false
set_option linter.unusedSectionVars false
namespace Go.Proofs.YtiaiglgfangedaaDoor
open Go Go.Isk Go.RowKit
set_option maxRecDepth 20000
section
variable {b : Base} {w : World} {L R M : List It} {g gf gm g4 g5 g6 : Nat} {v sv kv dv lv e : Value} {cs ds : List Value} {z Z : FsD} {r Q : RFS} {x : ActD} {l : List ActD} {k : Value → World → Prop}
def otN : Bytes := [111, 116, 104, 101, 114]
theorem acT : slT Tryd.prog T.sl_isthmuslaw04_Act T.isthmuslaw04_Act 6 96 = true := by kernel_rfl
theorem zero_rfs {k : Value → World → Prop} (hk : k (.agg (rfsV ⟨[], 0, false, 0, false⟩ (.slice none 0 0)).toArray) w) : o1 Tryd.prog (Instr.build T.isthmusref04_FS #[]) w k := st_build (by kernel_rfl) hk
/-- the file system's place that holds what the document answered -/
theorem rfs_new {g7 : Nat} (hs : Isk.Sep b w ((rfsF ds Q).it :: M)) (hr : Has M (resI Tryd.prog g7 T.isthmusref04_FS) R)
    (hk : ∀ A c w', Isk.Sep b w' (blkI g7 T.isthmusref04_FS (rfsV Q (.slice A Q.l.length c)) :: (listF rfF 3 (.slice A Q.l.length c) Q.l).it :: R) → k undef w') :
    o0 Tryd.prog (Instr.storeAt T.isthmusref04_FS (.pointer (some ⟨g7, 0, none⟩)) (.agg ds.toArray)) w k := by
  obtain ⟨A, c, rfl, hs⟩ := rfs_open hs .hd
  refine sp_setr (ds := rfsV Q (.slice A Q.l.length c)) hs (.tl (.tl hr)) (by kernel_rfl) rfl (rfsV_one Q) fun w hs => hk A c w (hs.sbl (.cons .hd (.cons .hd (.drop .all))))
end
end Go.Proofs.YtiaiglgfangedaaDoor
set_option linter.unusedVariables false
set_option linter.unusedSimpArgs false
set_option linter.unusedSectionVars false
namespace Go.Proofs.YtiaiglgfangedaaDoor
open Go Go.Isk Go.RowKit
set_option maxRecDepth 20000
section
variable {b : Base} {w : World} {L R M : List It} {g gf gm g2 gm2 g4 g5 g6 g9 : Nat} {v sv kv dv lv mv' e : Value} {cs ds : List Value} {z Z : FsD} {r Q : RFS} {x : ActD} {l l2 : List ActD} {k : Value → World → Prop}
def F.isthmuslaw04_FilesClone_r (k : Value → World → Prop) (a1 t4 t5 t6 t8 t9 t39 : Value) (w : World) : Prop :=
  o0 Tryd.prog (Instr.storeAt 42 t9 t39) w fun _ w =>
  mv t8 fun t40 =>
  o1 Tryd.prog (bin .eql 23 (.tmp 40) (.const (.pointer none)) t40 (.pointer none)) w fun t41 w =>
  br t41 (fun _ =>
  mv (.bool false) fun t4_2 =>
  k t4_2 w) (fun _ =>
  mv (.int .i64 0) fun t10 =>
  lp [t4, t10, undef] w fun I2 μ2 => ∀ (x2 : Env) (w2 : World), I2 [x2 4, x2 10, x2 12] w2 →
  mv (x2 10) fun t42 =>
  mv a1 fun t43 =>
  o1 Tryd.prog (Builtin.len_ #[39] 3 #[t43]) w2 fun t44 w =>
  o1 Tryd.prog (bin .lss 3 (.tmp 42) (.tmp 44) t42 t44) w fun t45 w =>
  mv t45 fun t46 =>
  gd t46 true (fun k3 => mv (x2 10) fun v => k3 v w) w fun t47 w =>
  gd t46 true (fun k4 => o1 Tryd.prog (bin .lss 3 (.tmp 47) (.const (.int .i64 40)) t47 (.int .i64 40)) w k4) w fun t48 w =>
  pk t46 t48 (.bool false) fun t49 =>
  br t49 (fun _ =>
  dr w.drew fun S3 =>
  mv t8 fun t53 =>
  tk Tryd.prog S3 (Instr.loadAt 42 t9) fun t54 =>
  mv a1 fun t55 =>
  mv (x2 10) fun t56 =>
  tk Tryd.prog S3 (Instr.indexAt 39 t55 t56) fun t57 =>
  tk Tryd.prog S3 (Instr.loadAt 46 t57) fun t58 =>
  (C Tryd.prog N.isthmuslaw04_step #[t53, t54, t58] w.drew fun t59 w =>
  S3 w ∧
  mv t59 fun t52 =>
  tk Tryd.prog S3 (Instr.extract t52 0) fun t60 =>
  tk Tryd.prog S3 (Instr.extract t52 1) fun t61 =>
  o1 Tryd.prog (Instr.alloc 42 true (.tuple #[])) w fun t11 w =>
  S3 w ∧
  o0 Tryd.prog (Instr.storeAt 42 t11 t60) w fun _ w =>
  S3 w ∧
  mv t61 fun t12 =>
  o1 Tryd.prog (Instr.loadAt 42 t11) w fun t62 w =>
  o0 Tryd.prog (Instr.storeAt 42 t9 t62) w fun _ w =>
  mv t12 fun t63 =>
  o1 Tryd.prog (Op.unary .not t63) w fun t64 w =>
  br t64 (fun _ =>
  mv (.bool false) fun t4_3 =>
  k t4_3 w) (fun _ =>
  mv (x2 10) fun t50 =>
  o1 Tryd.prog (bin .add 3 (.tmp 50) (.const (.int .i64 1)) t50 (.int .i64 1)) w fun t51 w =>
  mv t51 fun t10_1 =>
  I2 [(x2 4), t10_1, t12] w ∧ μ2 [(x2 4), t10_1, t12] w < μ2 [x2 4, x2 10, x2 12] w2)) ∧ (
  o1 Tryd.prog (Instr.alloc 42 true (.tuple #[])) w.drew fun t11_1 w =>
  S3 w ∧
  C Tryd.prog N.isthmuslaw04_step #[t53, t54, t58] w fun t59_1 w =>
  S3 w ∧
  mv t59_1 fun t52_1 =>
  tk Tryd.prog S3 (Instr.extract t52_1 0) fun t60_1 =>
  tk Tryd.prog S3 (Instr.extract t52_1 1) fun t61_1 =>
  o0 Tryd.prog (Instr.storeAt 42 t11_1 t60_1) w fun _ w =>
  S3 w ∧
  mv t61_1 fun t12_1 =>
  o1 Tryd.prog (Instr.loadAt 42 t11_1) w fun t62_1 w =>
  o0 Tryd.prog (Instr.storeAt 42 t9 t62_1) w fun _ w =>
  mv t12_1 fun t63_1 =>
  o1 Tryd.prog (Op.unary .not t63_1) w fun t64_1 w =>
  br t64_1 (fun _ =>
  mv (.bool false) fun t4_4 =>
  k t4_4 w) (fun _ =>
  mv (x2 10) fun t50_1 =>
  o1 Tryd.prog (bin .add 3 (.tmp 50) (.const (.int .i64 1)) t50_1 (.int .i64 1)) w fun t51_1 w =>
  mv t51_1 fun t10_2 =>
  I2 [(x2 4), t10_2, t12_1] w ∧ μ2 [(x2 4), t10_2, t12_1] w < μ2 [x2 4, x2 10, x2 12] w2))) (fun _ =>
  mv t5 fun t65 =>
  o1 Tryd.prog (Instr.loadAt 42 t6) w fun t66 w =>
  C Tryd.prog N.isthmuslaw04_same #[t65, t66] w fun t67 w =>
  mv t67 fun t68 =>
  gd t68 true (fun k5 => mv t8 fun v => k5 v w) w fun t69 w =>
  gd t68 true (fun k6 => o1 Tryd.prog (Instr.loadAt 42 t9) w k6) w fun t70 w =>
  gd t68 true (fun k7 => C Tryd.prog N.isthmuslaw04_same #[t69, t70] w k7) w fun t71 w =>
  pk t68 t71 (.bool false) fun t72 =>
  mv t72 fun t73 =>
  gd t73 true (fun k8 => C Tryd.prog N.isthmuslaw04_sure #[] w k8) w fun t74 w =>
  pk t73 t74 (.bool false) fun t75 =>
  mv t75 fun t4_5 =>
  k t4_5 w))
def F.isthmuslaw04_FilesClone_s (k : Value → World → Prop) (t6 t8 t9 t65 : Value) (w : World) : Prop :=
  o1 Tryd.prog (Instr.loadAt 42 t6) w fun t66 w =>
  C Tryd.prog N.isthmuslaw04_same #[t65, t66] w fun t67 w =>
  mv t67 fun t68 =>
  gd t68 true (fun k5 => mv t8 fun v => k5 v w) w fun t69 w =>
  gd t68 true (fun k6 => o1 Tryd.prog (Instr.loadAt 42 t9) w k6) w fun t70 w =>
  gd t68 true (fun k7 => C Tryd.prog N.isthmuslaw04_same #[t69, t70] w k7) w fun t71 w =>
  pk t68 t71 (.bool false) fun t72 =>
  mv t72 fun t73 =>
  gd t73 true (fun k8 => C Tryd.prog N.isthmuslaw04_sure #[] w k8) w fun t74 w =>
  pk t73 t74 (.bool false) fun t75 =>
  mv t75 fun t4_5 =>
  k t4_5 w
theorem filesClone_last {A c A9 c9} {zc : FsD} {rc : RFS} (hR : Rel z r) (hRc : Rel zc rc) (hT : Ins L errT.it) (hs : Isk.Sep b w (blkI g2 T.files_FS (fsV gm2 zc) :: mapI fileF gm2 zc.m :: blkI g9 T.isthmusref04_FS (rfsV rc (.slice A9 rc.l.length c9)) :: (listF rfF 3 (.slice A9 rc.l.length c9) rc.l).it :: blkI gf T.files_FS (fsV gm z) :: mapI fileF gm z.m :: blkI g4 T.isthmusref04_FS (rfsV r (.slice A r.l.length c)) :: (listF rfF 3 (.slice A r.l.length c) r.l).it :: L)) :
    F.isthmuslaw04_FilesClone_s (fun v w' => v = .bool true ∧ Isk.Sep b w' L) (.pointer (some ⟨g4, 0, none⟩)) (.pointer (some ⟨g2, 0, none⟩)) (.pointer (some ⟨g9, 0, none⟩)) (.pointer (some ⟨gf, 0, none⟩)) w := by
  unfold F.isthmuslaw04_FilesClone_s
  refine sp_loadall hs (.tl (.tl (.tl (.tl (.tl (.tl .hd)))))) (by kernel_rfl) rfl ?_
  replace hs := (rfs_fact hs (.tl (.tl (.tl (.tl (.tl (.tl (.tl .hd)))))))).sbl (L' := blkI gf T.files_FS (fsV gm z) :: mapI fileF gm z.m :: (rfsF (rfsV r (.slice A r.l.length c)) r).it :: blkI g2 T.files_FS (fsV gm2 zc) :: mapI fileF gm2 zc.m :: blkI g9 T.isthmusref04_FS (rfsV rc (.slice A9 rc.l.length c9)) :: (listF rfF 3 (.slice A9 rc.l.length c9) rc.l).it :: L) (.cons (.tl (.tl (.tl (.tl (.tl .hd))))) (.cons (.tl (.tl (.tl (.tl (.tl .hd))))) (.cons .hd (.cons .hd (.cons .hd (.cons .hd (.cons .hd (.drop (.drop .all)))))))))
  refine cl (isthmuslaw04_same hR (.tl (.tl (.tl (.tl (.tl hT))))) hs .hd) ?_
  rintro _ w ⟨rfl, hs⟩
  repeat (first
   | (with_reducible (first | refine st_lens ?_ | refine st_eqls ?_ | refine st_nels ?_ | refine tk_eqls ?_ | refine tk_nels ?_ | refine mv.mk ?_ | refine nk_p ?_ | refine gdT_i ?_ | refine gdT_ft ?_ | refine gdT_tf ?_ | refine gdT_u ?_ | refine gd_u ?_ | refine gd_ft ?_ | refine gd_tf ?_ | refine gd_i ?_ | refine pk_t ?_ | refine pk_f ?_ | refine br_t ?_ | refine br_f ?_ | refine sp_boxa hs fun g w hs => ?_))
   | (with_reducible ((first | apply st_bin | apply st_ext | apply st_len | apply st_un | apply st_conv | apply st_mki | apply st_fld | apply st_cap | apply st_max | apply st_min | apply st_ixv | apply st_mkf); intro k' hk; simp [go_sem, thenR_ok, bin]; refine hk _ _ ?_; clear hk k'))
   | ((with_reducible (first | apply tk_bin | apply tk_ext | apply tk_len | apply tk_un)); (· intro w; simp [go_sem, bin]; rfl))
   | ((with_reducible apply sp_newr hs); (· kernel_rfl); intro g w hs))
  refine sp_loadall hs (.tl (.tl (.tl (.tl (.tl .hd))))) (by kernel_rfl) rfl ?_
  replace hs := (rfs_fact hs (.tl (.tl (.tl (.tl (.tl (.tl .hd))))))).sbl (L' := blkI g2 T.files_FS (fsV gm2 zc) :: mapI fileF gm2 zc.m :: (rfsF (rfsV rc (.slice A9 rc.l.length c9)) rc).it :: L) (.cons (.tl (.tl (.tl (.tl .hd)))) (.cons (.tl (.tl (.tl (.tl .hd)))) (.cons .hd (.drop (.drop (.drop (.drop (.drop .all))))))))
  repeat (first
   | (with_reducible (first | refine st_lens ?_ | refine st_eqls ?_ | refine st_nels ?_ | refine tk_eqls ?_ | refine tk_nels ?_ | refine mv.mk ?_ | refine nk_p ?_ | refine gdT_i ?_ | refine gdT_ft ?_ | refine gdT_tf ?_ | refine gdT_u ?_ | refine gd_u ?_ | refine gd_ft ?_ | refine gd_tf ?_ | refine gd_i ?_ | refine pk_t ?_ | refine pk_f ?_ | refine br_t ?_ | refine br_f ?_ | refine sp_boxa hs fun g w hs => ?_))
   | (with_reducible ((first | apply st_bin | apply st_ext | apply st_len | apply st_un | apply st_conv | apply st_mki | apply st_fld | apply st_cap | apply st_max | apply st_min | apply st_ixv | apply st_mkf); intro k' hk; simp [go_sem, thenR_ok, bin]; refine hk _ _ ?_; clear hk k'))
   | ((with_reducible (first | apply tk_bin | apply tk_ext | apply tk_len | apply tk_un)); (· intro w; simp [go_sem, bin]; rfl))
   | ((with_reducible apply sp_newr hs); (· kernel_rfl); intro g w hs))
  refine cl (isthmuslaw04_same hRc (.tl hT) hs .hd) ?_
  rintro _ w ⟨rfl, hs⟩
  repeat (first
   | (with_reducible (first | refine st_lens ?_ | refine st_eqls ?_ | refine st_nels ?_ | refine tk_eqls ?_ | refine tk_nels ?_ | refine mv.mk ?_ | refine nk_p ?_ | refine gdT_i ?_ | refine gdT_ft ?_ | refine gdT_tf ?_ | refine gdT_u ?_ | refine gd_u ?_ | refine gd_ft ?_ | refine gd_tf ?_ | refine gd_i ?_ | refine pk_t ?_ | refine pk_f ?_ | refine br_t ?_ | refine br_f ?_ | refine sp_boxa hs fun g w hs => ?_))
   | (with_reducible ((first | apply st_bin | apply st_ext | apply st_len | apply st_un | apply st_conv | apply st_mki | apply st_fld | apply st_cap | apply st_max | apply st_min | apply st_ixv | apply st_mkf); intro k' hk; simp [go_sem, thenR_ok, bin]; refine hk _ _ ?_; clear hk k'))
   | ((with_reducible (first | apply tk_bin | apply tk_ext | apply tk_len | apply tk_un)); (· intro w; simp [go_sem, bin]; rfl))
   | ((with_reducible apply sp_newr hs); (· kernel_rfl); intro g w hs))
  refine cl (isthmuslaw04_sure (hs.sbl (L' := L) (.drop (.drop (.drop .all))))) ?_
  rintro _ w ⟨rfl, hs⟩
  repeat (first
   | (with_reducible (first | refine st_lens ?_ | refine st_eqls ?_ | refine st_nels ?_ | refine tk_eqls ?_ | refine tk_nels ?_ | refine mv.mk ?_ | refine nk_p ?_ | refine gdT_i ?_ | refine gdT_ft ?_ | refine gdT_tf ?_ | refine gdT_u ?_ | refine gd_u ?_ | refine gd_ft ?_ | refine gd_tf ?_ | refine gd_i ?_ | refine pk_t ?_ | refine pk_f ?_ | refine br_t ?_ | refine br_f ?_ | refine sp_boxa hs fun g w hs => ?_))
   | (with_reducible ((first | apply st_bin | apply st_ext | apply st_len | apply st_un | apply st_conv | apply st_mki | apply st_fld | apply st_cap | apply st_max | apply st_min | apply st_ixv | apply st_mkf); intro k' hk; simp [go_sem, thenR_ok, bin]; refine hk _ _ ?_; clear hk k'))
   | ((with_reducible (first | apply tk_bin | apply tk_ext | apply tk_len | apply tk_un)); (· intro w; simp [go_sem, bin]; rfl))
   | ((with_reducible apply sp_newr hs); (· kernel_rfl); intro g w hs))
  exact ⟨rfl, hs⟩
theorem filesClone_end {A c} (hR : Rel z r) (hT : Ins L errT.it) (hl : Ins L (listF actF 6 lv l).it) (hB : ∀ x ∈ l, okA x)
    (hs : Isk.Sep b w (resI Tryd.prog g9 T.isthmusref04_FS :: blkI g2 T.files_FS (fsV gm2 z) :: mapI fileF gm2 z.m :: blkI gf T.files_FS (fsV gm z) :: mapI fileF gm z.m :: blkI g4 T.isthmusref04_FS (rfsV r (.slice A r.l.length c)) :: (listF rfF 3 (.slice A r.l.length c) r.l).it :: L)) :
    F.isthmuslaw04_FilesClone_r (fun v w' => v = .bool true ∧ Isk.Sep b w' L) lv (.bool false) (.pointer (some ⟨gf, 0, none⟩)) (.pointer (some ⟨g4, 0, none⟩)) (.pointer (some ⟨g2, 0, none⟩)) (.pointer (some ⟨g9, 0, none⟩)) (.agg (rfsV r (.slice A r.l.length c)).toArray) w := by
  obtain ⟨Al, cl', rfl⟩ := hs.lst_len (Ins.lst (.tl (.tl (.tl (.tl (.tl (.tl (.tl hl))))))))
  unfold F.isthmuslaw04_FilesClone_r
  refine sp_setr (ds := rfsV r (.slice A r.l.length c)) hs .hd (by kernel_rfl) rfl (rfsV_one _) fun w hs => ?_
  replace hs := (hs.fact (f := listF rfF 3 (.slice A r.l.length c) r.l) (hs.get (.tl (.tl (.tl (.tl (.tl (.tl .hd)))))))).sbl (L' := blkI g2 T.files_FS (fsV gm2 z) :: mapI fileF gm2 z.m :: blkI g9 T.isthmusref04_FS (rfsV r (.slice A r.l.length c)) :: (listF rfF 3 (.slice A r.l.length c) r.l).it :: blkI gf T.files_FS (fsV gm z) :: mapI fileF gm z.m :: blkI g4 T.isthmusref04_FS (rfsV r (.slice A r.l.length c)) :: (listF rfF 3 (.slice A r.l.length c) r.l).it :: L) (.cons (.tl (.tl .hd)) (.cons (.tl (.tl .hd)) (.cons (.tl .hd) (.cons .hd .all))))
  repeat (first
   | (with_reducible (first | refine st_lens ?_ | refine st_eqls ?_ | refine st_nels ?_ | refine tk_eqls ?_ | refine tk_nels ?_ | refine mv.mk ?_ | refine nk_p ?_ | refine gdT_i ?_ | refine gdT_ft ?_ | refine gdT_tf ?_ | refine gdT_u ?_ | refine gd_u ?_ | refine gd_ft ?_ | refine gd_tf ?_ | refine gd_i ?_ | refine pk_t ?_ | refine pk_f ?_ | refine br_t ?_ | refine br_f ?_ | refine sp_boxa hs fun g w hs => ?_))
   | (with_reducible ((first | apply st_bin | apply st_ext | apply st_len | apply st_un | apply st_conv | apply st_mki | apply st_fld | apply st_cap | apply st_max | apply st_min | apply st_ixv | apply st_mkf); intro k' hk; simp [go_sem, thenR_ok, bin]; refine hk _ _ ?_; clear hk k'))
   | ((with_reducible (first | apply tk_bin | apply tk_ext | apply tk_len | apply tk_un)); (· intro w; simp [go_sem, bin]; rfl))
   | ((with_reducible apply sp_newr hs); (· kernel_rfl); intro g w hs))
  refine lp_by (fun us w' => ∃ (i : Nat) (zc : FsD) (rc : RFS) (A9 : Option Addr) (c9 : Nat) (y : Value), us = [.bool false, .int .i64 (i : Int), y] ∧ i ≤ 40 ∧ Rel zc rc ∧ Isk.Sep b w' (blkI g2 T.files_FS (fsV gm2 zc) :: mapI fileF gm2 zc.m :: blkI g9 T.isthmusref04_FS (rfsV rc (.slice A9 rc.l.length c9)) :: (listF rfF 3 (.slice A9 rc.l.length c9) rc.l).it :: blkI gf T.files_FS (fsV gm z) :: mapI fileF gm z.m :: blkI g4 T.isthmusref04_FS (rfsV r (.slice A r.l.length c)) :: (listF rfF 3 (.slice A r.l.length c) r.l).it :: L))
    (fun us _ => match us with | [_, .int _ m, _] => 40 - m.toNat | _ => 0) ⟨0, z, r, A, c, _, rfl, Nat.zero_le _, hR, hs⟩ ?_
  clear hs
  rintro x1 w ⟨i, zc, rc, A9, c9, y, hx1, hi, hRc, hs⟩
  simp only [List.cons.injEq, and_true] at hx1
  simp only [hx1.1, hx1.2.1, hx1.2.2]
  repeat (first
   | (with_reducible (first | refine st_lens ?_ | refine st_eqls ?_ | refine st_nels ?_ | refine tk_eqls ?_ | refine tk_nels ?_ | refine mv.mk ?_ | refine nk_p ?_ | refine gdT_i ?_ | refine gdT_ft ?_ | refine gdT_tf ?_ | refine gdT_u ?_ | refine gd_u ?_ | refine gd_ft ?_ | refine gd_tf ?_ | refine gd_i ?_ | refine pk_t ?_ | refine pk_f ?_ | refine br_t ?_ | refine br_f ?_ | refine sp_boxa hs fun g w hs => ?_))
   | (with_reducible ((first | apply st_bin | apply st_ext | apply st_len | apply st_un | apply st_conv | apply st_mki | apply st_fld | apply st_cap | apply st_max | apply st_min | apply st_ixv | apply st_mkf); intro k' hk; simp [go_sem, thenR_ok, bin]; refine hk _ _ ?_; clear hk k'))
   | ((with_reducible (first | apply tk_bin | apply tk_ext | apply tk_len | apply tk_un)); (· intro w; simp [go_sem, bin]; rfl))
   | ((with_reducible apply sp_newr hs); (· kernel_rfl); intro g w hs))
  by_cases h1 : i < l.length ∧ i < 40
  · obtain ⟨h1, h2⟩ := h1
    rw [decide_eq_true h1]
    repeat (first
     | (with_reducible (first | refine st_lens ?_ | refine st_eqls ?_ | refine st_nels ?_ | refine tk_eqls ?_ | refine tk_nels ?_ | refine mv.mk ?_ | refine nk_p ?_ | refine gdT_i ?_ | refine gdT_ft ?_ | refine gdT_tf ?_ | refine gdT_u ?_ | refine gd_u ?_ | refine gd_ft ?_ | refine gd_tf ?_ | refine gd_i ?_ | refine pk_t ?_ | refine pk_f ?_ | refine br_t ?_ | refine br_f ?_ | refine sp_boxa hs fun g w hs => ?_))
     | (with_reducible ((first | apply st_bin | apply st_ext | apply st_len | apply st_un | apply st_conv | apply st_mki | apply st_fld | apply st_cap | apply st_max | apply st_min | apply st_ixv | apply st_mkf); intro k' hk; simp [go_sem, thenR_ok, bin]; refine hk _ _ ?_; clear hk k'))
     | ((with_reducible (first | apply tk_bin | apply tk_ext | apply tk_len | apply tk_un)); (· intro w; simp [go_sem, bin]; rfl))
     | ((with_reducible apply sp_newr hs); (· kernel_rfl); intro g w hs))
    rw [show decide ((i : Int) < 40) = true by simp; omega]
    repeat (first
     | (with_reducible (first | refine st_lens ?_ | refine st_eqls ?_ | refine st_nels ?_ | refine tk_eqls ?_ | refine tk_nels ?_ | refine mv.mk ?_ | refine nk_p ?_ | refine gdT_i ?_ | refine gdT_ft ?_ | refine gdT_tf ?_ | refine gdT_u ?_ | refine gd_u ?_ | refine gd_ft ?_ | refine gd_tf ?_ | refine gd_i ?_ | refine pk_t ?_ | refine pk_f ?_ | refine br_t ?_ | refine br_f ?_ | refine sp_boxa hs fun g w hs => ?_))
     | (with_reducible ((first | apply st_bin | apply st_ext | apply st_len | apply st_un | apply st_conv | apply st_mki | apply st_fld | apply st_cap | apply st_max | apply st_min | apply st_ixv | apply st_mkf); intro k' hk; simp [go_sem, thenR_ok, bin]; refine hk _ _ ?_; clear hk k'))
     | ((with_reducible (first | apply tk_bin | apply tk_ext | apply tk_len | apply tk_un)); (· intro w; simp [go_sem, bin]; rfl))
     | ((with_reducible apply sp_newr hs); (· kernel_rfl); intro g w hs))
    obtain ⟨g1, o1, cs, hix, hcl, hs⟩ := hs.el (P := Tryd.prog) (T := T.sl_isthmuslaw04_Act) (.tl (.tl (.tl (.tl (.tl (.tl (.tl (.tl hl)))))))) acT i h1
    have hBx := hB _ (List.getElem_mem h1)
    have hA := hRc.act l[i]
    replace hs := rfs_fact hs (.tl (.tl (.tl (.tl (.tl .hd)))))
    replace hs := hs.drew
    refine dr_can (R := [(rngF g1 o1 cs).it, blkI g9 T.isthmusref04_FS (rfsV rc (.slice A9 rc.l.length c9))]) hs (.drop (.cons .hd (.drop (.drop (.drop (.cons .hd .nil)))))) ?_
    repeat with_reducible refine mv.mk ?_
    refine tk_ldn hid (.tl .blk) (by kernel_rfl) rfl ?_
    repeat with_reducible refine mv.mk ?_
    refine tk_run (hix .i64) ?_
    refine tk_ldn hid .rng (by kernel_rfl) hcl ?_
    refine ⟨?_, ?_⟩
    · replace hs := hs.sbl (.cons (.tl (.tl (.tl .hd))) (.cons (.tl (.tl (.tl .hd))) .all))
      refine cl (isthmuslaw04_step hRc (.tl (.tl (.tl (.tl (.tl (.tl (.tl (.tl (.tl hT))))))))) hs (.tl (.tl .hd)) .hd hBx) ?_
      rintro _ w ⟨ds2, rfl, hs⟩
      refine ⟨hs.mayr (.drop (.drop (.drop (.drop (.cons .hd (.drop (.cons .hd .nil))))))), ?_⟩
      repeat (first
       | (with_reducible (first | refine st_lens ?_ | refine st_eqls ?_ | refine st_nels ?_ | refine tk_eqls ?_ | refine tk_nels ?_ | refine mv.mk ?_ | refine nk_p ?_ | refine gdT_i ?_ | refine gdT_ft ?_ | refine gdT_tf ?_ | refine gdT_u ?_ | refine gd_u ?_ | refine gd_ft ?_ | refine gd_tf ?_ | refine gd_i ?_ | refine pk_t ?_ | refine pk_f ?_ | refine br_t ?_ | refine br_f ?_ | refine sp_boxa hs fun g w hs => ?_))
       | (with_reducible ((first | apply st_bin | apply st_ext | apply st_len | apply st_un | apply st_conv | apply st_mki | apply st_fld | apply st_cap | apply st_max | apply st_min | apply st_ixv | apply st_mkf); intro k' hk; simp [go_sem, thenR_ok, bin]; refine hk _ _ ?_; clear hk k'))
       | ((with_reducible (first | apply tk_bin | apply tk_ext | apply tk_len | apply tk_un)); (· intro w; simp [go_sem, bin]; rfl))
       | ((with_reducible apply sp_newr hs); (· kernel_rfl); intro g w hs))
      refine ⟨hs.mayr (.drop (.drop (.drop (.drop (.drop (.cons .hd (.drop (.cons .hd .nil)))))))), ?_⟩
      replace hs := hs.sbl (.cons (.tl .hd) .all)
      refine rfs_new hs .hd fun A2 c2 w hs => ?_
      refine ⟨hs.mayr (.drop (.drop (.drop (.drop (.drop (.cons .hd (.drop (.cons .hd .nil)))))))), ?_⟩
      repeat with_reducible refine mv.mk ?_
      refine sp_loadall hs .hd (by kernel_rfl) rfl ?_
      refine sp_whole hs (.tl (.tl (.tl (.tl (.tl (.tl (.tl .hd))))))) (by kernel_rfl) rfl rfl (rfsV_one _) fun w hs => ?_
      replace hs := hs.sbl (L' := blkI g2 T.files_FS (fsV gm2 (stepZ zc l[i]).1) :: mapI fileF gm2 (stepZ zc l[i]).1.m :: blkI g9 T.isthmusref04_FS (rfsV (stepD rc l[i]).1 (.slice A2 (stepD rc l[i]).1.l.length c2)) :: (listF rfF 3 (.slice A2 (stepD rc l[i]).1.l.length c2) (stepD rc l[i]).1.l).it :: blkI gf T.files_FS (fsV gm z) :: mapI fileF gm z.m :: blkI g4 T.isthmusref04_FS (rfsV r (.slice A r.l.length c)) :: (listF rfF 3 (.slice A r.l.length c) r.l).it :: L) (.cons (.tl (.tl (.tl .hd))) (.cons (.tl (.tl (.tl .hd))) (.cons .hd (.drop (.cons .hd (.drop (.drop (.drop (.drop (.cons .hd (.cons .hd (.cons .hd (.cons .hd .all)))))))))))))
      repeat (first
       | (with_reducible (first | refine st_lens ?_ | refine st_eqls ?_ | refine st_nels ?_ | refine tk_eqls ?_ | refine tk_nels ?_ | refine mv.mk ?_ | refine nk_p ?_ | refine gdT_i ?_ | refine gdT_ft ?_ | refine gdT_tf ?_ | refine gdT_u ?_ | refine gd_u ?_ | refine gd_ft ?_ | refine gd_tf ?_ | refine gd_i ?_ | refine pk_t ?_ | refine pk_f ?_ | refine br_t ?_ | refine br_f ?_ | refine sp_boxa hs fun g w hs => ?_))
       | (with_reducible ((first | apply st_bin | apply st_ext | apply st_len | apply st_un | apply st_conv | apply st_mki | apply st_fld | apply st_cap | apply st_max | apply st_min | apply st_ixv | apply st_mkf); intro k' hk; simp [go_sem, thenR_ok, bin]; refine hk _ _ ?_; clear hk k'))
       | ((with_reducible (first | apply tk_bin | apply tk_ext | apply tk_len | apply tk_un)); (· intro w; simp [go_sem, bin]; rfl))
       | ((with_reducible apply sp_newr hs); (· kernel_rfl); intro g w hs))
      rw [i64_succ (by omega)]
      exact ⟨⟨i + 1, _, _, A2, c2, _, rfl, by omega, hA.1, hs⟩, by simp; omega⟩
    · refine sp_newr hs (by kernel_rfl) fun g7 w hs => ?_
      refine ⟨hs.mayr (.drop (.drop (.cons .hd (.drop (.drop (.drop (.cons .hd .nil))))))), ?_⟩
      replace hs := hs.sbl (.cons (.tl (.tl (.tl (.tl .hd)))) (.cons (.tl (.tl (.tl (.tl .hd)))) .all))
      refine cl (isthmuslaw04_step hRc (.tl (.tl (.tl (.tl (.tl (.tl (.tl (.tl (.tl (.tl hT)))))))))) hs (.tl (.tl (.tl .hd))) (.tl .hd) hBx) ?_
      rintro _ w ⟨ds2, rfl, hs⟩
      refine ⟨hs.mayr (.drop (.drop (.drop (.drop (.drop (.cons .hd (.drop (.cons .hd .nil)))))))), ?_⟩
      repeat (first
       | (with_reducible (first | refine st_lens ?_ | refine st_eqls ?_ | refine st_nels ?_ | refine tk_eqls ?_ | refine tk_nels ?_ | refine mv.mk ?_ | refine nk_p ?_ | refine gdT_i ?_ | refine gdT_ft ?_ | refine gdT_tf ?_ | refine gdT_u ?_ | refine gd_u ?_ | refine gd_ft ?_ | refine gd_tf ?_ | refine gd_i ?_ | refine pk_t ?_ | refine pk_f ?_ | refine br_t ?_ | refine br_f ?_ | refine sp_boxa hs fun g w hs => ?_))
       | (with_reducible ((first | apply st_bin | apply st_ext | apply st_len | apply st_un | apply st_conv | apply st_mki | apply st_fld | apply st_cap | apply st_max | apply st_min | apply st_ixv | apply st_mkf); intro k' hk; simp [go_sem, thenR_ok, bin]; refine hk _ _ ?_; clear hk k'))
       | ((with_reducible (first | apply tk_bin | apply tk_ext | apply tk_len | apply tk_un)); (· intro w; simp [go_sem, bin]; rfl))
       | ((with_reducible apply sp_newr hs); (· kernel_rfl); intro g w hs))
      refine rfs_new hs (.tl (.tl .hd)) fun A2 c2 w hs => ?_
      refine ⟨hs.mayr (.drop (.drop (.drop (.drop (.drop (.cons .hd (.drop (.cons .hd .nil)))))))), ?_⟩
      repeat with_reducible refine mv.mk ?_
      refine sp_loadall hs .hd (by kernel_rfl) rfl ?_
      refine sp_whole hs (.tl (.tl (.tl (.tl (.tl (.tl (.tl .hd))))))) (by kernel_rfl) rfl rfl (rfsV_one _) fun w hs => ?_
      replace hs := hs.sbl (L' := blkI g2 T.files_FS (fsV gm2 (stepZ zc l[i]).1) :: mapI fileF gm2 (stepZ zc l[i]).1.m :: blkI g9 T.isthmusref04_FS (rfsV (stepD rc l[i]).1 (.slice A2 (stepD rc l[i]).1.l.length c2)) :: (listF rfF 3 (.slice A2 (stepD rc l[i]).1.l.length c2) (stepD rc l[i]).1.l).it :: blkI gf T.files_FS (fsV gm z) :: mapI fileF gm z.m :: blkI g4 T.isthmusref04_FS (rfsV r (.slice A r.l.length c)) :: (listF rfF 3 (.slice A r.l.length c) r.l).it :: L) (.cons (.tl (.tl (.tl .hd))) (.cons (.tl (.tl (.tl .hd))) (.cons .hd (.drop (.cons .hd (.drop (.drop (.drop (.drop (.cons .hd (.cons .hd (.cons .hd (.cons .hd .all)))))))))))))
      repeat (first
       | (with_reducible (first | refine st_lens ?_ | refine st_eqls ?_ | refine st_nels ?_ | refine tk_eqls ?_ | refine tk_nels ?_ | refine mv.mk ?_ | refine nk_p ?_ | refine gdT_i ?_ | refine gdT_ft ?_ | refine gdT_tf ?_ | refine gdT_u ?_ | refine gd_u ?_ | refine gd_ft ?_ | refine gd_tf ?_ | refine gd_i ?_ | refine pk_t ?_ | refine pk_f ?_ | refine br_t ?_ | refine br_f ?_ | refine sp_boxa hs fun g w hs => ?_))
       | (with_reducible ((first | apply st_bin | apply st_ext | apply st_len | apply st_un | apply st_conv | apply st_mki | apply st_fld | apply st_cap | apply st_max | apply st_min | apply st_ixv | apply st_mkf); intro k' hk; simp [go_sem, thenR_ok, bin]; refine hk _ _ ?_; clear hk k'))
       | ((with_reducible (first | apply tk_bin | apply tk_ext | apply tk_len | apply tk_un)); (· intro w; simp [go_sem, bin]; rfl))
       | ((with_reducible apply sp_newr hs); (· kernel_rfl); intro g w hs))
      rw [i64_succ (by omega)]
      exact ⟨⟨i + 1, _, _, A2, c2, _, rfl, by omega, hA.1, hs⟩, by simp; omega⟩
  · by_cases h2 : i < l.length
    · rw [decide_eq_true h2]
      repeat (first
       | (with_reducible (first | refine st_lens ?_ | refine st_eqls ?_ | refine st_nels ?_ | refine tk_eqls ?_ | refine tk_nels ?_ | refine mv.mk ?_ | refine nk_p ?_ | refine gdT_i ?_ | refine gdT_ft ?_ | refine gdT_tf ?_ | refine gdT_u ?_ | refine gd_u ?_ | refine gd_ft ?_ | refine gd_tf ?_ | refine gd_i ?_ | refine pk_t ?_ | refine pk_f ?_ | refine br_t ?_ | refine br_f ?_ | refine sp_boxa hs fun g w hs => ?_))
       | (with_reducible ((first | apply st_bin | apply st_ext | apply st_len | apply st_un | apply st_conv | apply st_mki | apply st_fld | apply st_cap | apply st_max | apply st_min | apply st_ixv | apply st_mkf); intro k' hk; simp [go_sem, thenR_ok, bin]; refine hk _ _ ?_; clear hk k'))
       | ((with_reducible (first | apply tk_bin | apply tk_ext | apply tk_len | apply tk_un)); (· intro w; simp [go_sem, bin]; rfl))
       | ((with_reducible apply sp_newr hs); (· kernel_rfl); intro g w hs))
      rw [show decide ((i : Int) < 40) = false by simp; omega]
      repeat (first
       | (with_reducible (first | refine st_lens ?_ | refine st_eqls ?_ | refine st_nels ?_ | refine tk_eqls ?_ | refine tk_nels ?_ | refine mv.mk ?_ | refine nk_p ?_ | refine gdT_i ?_ | refine gdT_ft ?_ | refine gdT_tf ?_ | refine gdT_u ?_ | refine gd_u ?_ | refine gd_ft ?_ | refine gd_tf ?_ | refine gd_i ?_ | refine pk_t ?_ | refine pk_f ?_ | refine br_t ?_ | refine br_f ?_ | refine sp_boxa hs fun g w hs => ?_))
       | (with_reducible ((first | apply st_bin | apply st_ext | apply st_len | apply st_un | apply st_conv | apply st_mki | apply st_fld | apply st_cap | apply st_max | apply st_min | apply st_ixv | apply st_mkf); intro k' hk; simp [go_sem, thenR_ok, bin]; refine hk _ _ ?_; clear hk k'))
       | ((with_reducible (first | apply tk_bin | apply tk_ext | apply tk_len | apply tk_un)); (· intro w; simp [go_sem, bin]; rfl))
       | ((with_reducible apply sp_newr hs); (· kernel_rfl); intro g w hs))
      exact filesClone_last hR hRc hT hs
    · rw [decide_eq_false h2]
      repeat (first
       | (with_reducible (first | refine st_lens ?_ | refine st_eqls ?_ | refine st_nels ?_ | refine tk_eqls ?_ | refine tk_nels ?_ | refine mv.mk ?_ | refine nk_p ?_ | refine gdT_i ?_ | refine gdT_ft ?_ | refine gdT_tf ?_ | refine gdT_u ?_ | refine gd_u ?_ | refine gd_ft ?_ | refine gd_tf ?_ | refine gd_i ?_ | refine pk_t ?_ | refine pk_f ?_ | refine br_t ?_ | refine br_f ?_ | refine sp_boxa hs fun g w hs => ?_))
       | (with_reducible ((first | apply st_bin | apply st_ext | apply st_len | apply st_un | apply st_conv | apply st_mki | apply st_fld | apply st_cap | apply st_max | apply st_min | apply st_ixv | apply st_mkf); intro k' hk; simp [go_sem, thenR_ok, bin]; refine hk _ _ ?_; clear hk k'))
       | ((with_reducible (first | apply tk_bin | apply tk_ext | apply tk_len | apply tk_un)); (· intro w; simp [go_sem, bin]; rfl))
       | ((with_reducible apply sp_newr hs); (· kernel_rfl); intro g w hs))
      exact filesClone_last hR hRc hT hs
theorem isthmuslaw04_FilesClone (hs : Isk.Sep b w L) (hT : Ins L errT.it) (hl : Ins L (listF actF 6 lv l).it) (hB : ∀ x ∈ l, okA x) (hl2 : Ins L (listF actF 6 mv' l2).it) (hB2 : ∀ x ∈ l2, okA x) :
    C Tryd.prog N.isthmuslaw04_FilesClone #[lv, mv'] w fun v w' => v = .bool true ∧ Isk.Sep b w' L := by
  obtain ⟨Al, cl', rfl⟩ := hs.lst_len hl.lst
  refine C.isthmuslaw04_FilesClone ?_
  unfold F.isthmuslaw04_FilesClone
  repeat with_reducible refine mv.mk ?_
  refine cl (files_New hs) ?_
  rintro _ w ⟨gf, gm, rfl, hs⟩
  repeat (first
   | (with_reducible (first | refine st_lens ?_ | refine st_eqls ?_ | refine st_nels ?_ | refine tk_eqls ?_ | refine tk_nels ?_ | refine mv.mk ?_ | refine nk_p ?_ | refine gdT_i ?_ | refine gdT_ft ?_ | refine gdT_tf ?_ | refine gdT_u ?_ | refine gd_u ?_ | refine gd_ft ?_ | refine gd_tf ?_ | refine gd_i ?_ | refine pk_t ?_ | refine pk_f ?_ | refine br_t ?_ | refine br_f ?_ | refine sp_boxa hs fun g w hs => ?_))
   | (with_reducible ((first | apply st_bin | apply st_ext | apply st_len | apply st_un | apply st_conv | apply st_mki | apply st_fld | apply st_cap | apply st_max | apply st_min | apply st_ixv | apply st_mkf); intro k' hk; simp [go_sem, thenR_ok, bin]; refine hk _ _ ?_; clear hk k'))
   | ((with_reducible (first | apply tk_bin | apply tk_ext | apply tk_len | apply tk_un)); (· intro w; simp [go_sem, bin]; rfl))
   | ((with_reducible apply sp_newr hs); (· kernel_rfl); intro g w hs))
  refine zero_rfs ?_
  refine sp_newr hs (by kernel_rfl) fun g4 w hs => ?_
  refine sp_setr (ds := rfsV ⟨[], 0, false, 0, false⟩ (.slice none 0 0)) hs .hd (by kernel_rfl) rfl (rfsV_one _) fun w hs => ?_
  replace hs := hs.nilF rfF 3
  repeat with_reducible refine mv.mk ?_
  refine lp_by (fun us w' => ∃ (i : Nat) (z : FsD) (r : RFS) (A : Option Addr) (c : Nat), us = [.int .i64 (i : Int)] ∧ i ≤ 40 ∧ Rel z r ∧ Isk.Sep b w' (blkI gf T.files_FS (fsV gm z) :: mapI fileF gm z.m :: blkI g4 T.isthmusref04_FS (rfsV r (.slice A r.l.length c)) :: (listF rfF 3 (.slice A r.l.length c) r.l).it :: L))
    (fun us _ => match us with | [.int _ m] => 40 - m.toNat | _ => 0) ⟨0, newF, ⟨[], 0, false, 0, false⟩, none, 0, rfl, Nat.zero_le _, Rel.new, hs.sbl (.cons (.tl (.tl .hd)) (.cons (.tl (.tl .hd)) (.cons (.tl .hd) (.cons .hd .all))))⟩ ?_
  clear hs
  rintro x1 w ⟨i, z, r, A, c, hx1, hi, hR, hs⟩
  simp only [List.cons.injEq, and_true] at hx1
  simp only [hx1]
  repeat (first
   | (with_reducible (first | refine st_lens ?_ | refine st_eqls ?_ | refine st_nels ?_ | refine tk_eqls ?_ | refine tk_nels ?_ | refine mv.mk ?_ | refine nk_p ?_ | refine gdT_i ?_ | refine gdT_ft ?_ | refine gdT_tf ?_ | refine gdT_u ?_ | refine gd_u ?_ | refine gd_ft ?_ | refine gd_tf ?_ | refine gd_i ?_ | refine pk_t ?_ | refine pk_f ?_ | refine br_t ?_ | refine br_f ?_ | refine sp_boxa hs fun g w hs => ?_))
   | (with_reducible ((first | apply st_bin | apply st_ext | apply st_len | apply st_un | apply st_conv | apply st_mki | apply st_fld | apply st_cap | apply st_max | apply st_min | apply st_ixv | apply st_mkf); intro k' hk; simp [go_sem, thenR_ok, bin]; refine hk _ _ ?_; clear hk k'))
   | ((with_reducible (first | apply tk_bin | apply tk_ext | apply tk_len | apply tk_un)); (· intro w; simp [go_sem, bin]; rfl))
   | ((with_reducible apply sp_newr hs); (· kernel_rfl); intro g w hs))
  by_cases h1 : i < l.length ∧ i < 40
  · obtain ⟨h1, h2⟩ := h1
    rw [decide_eq_true h1]
    repeat (first
     | (with_reducible (first | refine st_lens ?_ | refine st_eqls ?_ | refine st_nels ?_ | refine tk_eqls ?_ | refine tk_nels ?_ | refine mv.mk ?_ | refine nk_p ?_ | refine gdT_i ?_ | refine gdT_ft ?_ | refine gdT_tf ?_ | refine gdT_u ?_ | refine gd_u ?_ | refine gd_ft ?_ | refine gd_tf ?_ | refine gd_i ?_ | refine pk_t ?_ | refine pk_f ?_ | refine br_t ?_ | refine br_f ?_ | refine sp_boxa hs fun g w hs => ?_))
     | (with_reducible ((first | apply st_bin | apply st_ext | apply st_len | apply st_un | apply st_conv | apply st_mki | apply st_fld | apply st_cap | apply st_max | apply st_min | apply st_ixv | apply st_mkf); intro k' hk; simp [go_sem, thenR_ok, bin]; refine hk _ _ ?_; clear hk k'))
     | ((with_reducible (first | apply tk_bin | apply tk_ext | apply tk_len | apply tk_un)); (· intro w; simp [go_sem, bin]; rfl))
     | ((with_reducible apply sp_newr hs); (· kernel_rfl); intro g w hs))
    rw [show decide ((i : Int) < 40) = true by simp; omega]
    repeat (first
     | (with_reducible (first | refine st_lens ?_ | refine st_eqls ?_ | refine st_nels ?_ | refine tk_eqls ?_ | refine tk_nels ?_ | refine mv.mk ?_ | refine nk_p ?_ | refine gdT_i ?_ | refine gdT_ft ?_ | refine gdT_tf ?_ | refine gdT_u ?_ | refine gd_u ?_ | refine gd_ft ?_ | refine gd_tf ?_ | refine gd_i ?_ | refine pk_t ?_ | refine pk_f ?_ | refine br_t ?_ | refine br_f ?_ | refine sp_boxa hs fun g w hs => ?_))
     | (with_reducible ((first | apply st_bin | apply st_ext | apply st_len | apply st_un | apply st_conv | apply st_mki | apply st_fld | apply st_cap | apply st_max | apply st_min | apply st_ixv | apply st_mkf); intro k' hk; simp [go_sem, thenR_ok, bin]; refine hk _ _ ?_; clear hk k'))
     | ((with_reducible (first | apply tk_bin | apply tk_ext | apply tk_len | apply tk_un)); (· intro w; simp [go_sem, bin]; rfl))
     | ((with_reducible apply sp_newr hs); (· kernel_rfl); intro g w hs))
    obtain ⟨g1, o1, cs, hix, hcl, hs⟩ := hs.el (P := Tryd.prog) (T := T.sl_isthmuslaw04_Act) (.tl (.tl (.tl (.tl hl)))) acT i h1
    have hBx := hB _ (List.getElem_mem h1)
    have hA := hR.act l[i]
    replace hs := rfs_fact hs (.tl (.tl (.tl (.tl (.tl .hd)))))
    replace hs := hs.drew
    refine dr_can (R := [(rngF g1 o1 cs).it, blkI g4 T.isthmusref04_FS (rfsV r (.slice A r.l.length c))]) hs (.drop (.cons .hd (.drop (.drop (.drop (.cons .hd .nil)))))) ?_
    repeat with_reducible refine mv.mk ?_
    refine tk_ldn hid (.tl .blk) (by kernel_rfl) rfl ?_
    repeat with_reducible refine mv.mk ?_
    refine tk_run (hix .i64) ?_
    refine tk_ldn hid .rng (by kernel_rfl) hcl ?_
    replace hs := hs.sbl (.cons (.tl (.tl (.tl .hd))) (.cons (.tl (.tl (.tl .hd))) .all))
    refine cl (isthmuslaw04_step hR (.tl (.tl (.tl (.tl (.tl hT))))) hs (.tl (.tl .hd)) .hd hBx) ?_
    rintro _ w ⟨ds2, rfl, hs⟩
    refine ⟨hs.mayr (.drop (.drop (.drop (.drop (.cons .hd (.drop (.cons .hd .nil))))))), ?_⟩
    repeat (first
     | (with_reducible (first | refine st_lens ?_ | refine st_eqls ?_ | refine st_nels ?_ | refine tk_eqls ?_ | refine tk_nels ?_ | refine mv.mk ?_ | refine nk_p ?_ | refine gdT_i ?_ | refine gdT_ft ?_ | refine gdT_tf ?_ | refine gdT_u ?_ | refine gd_u ?_ | refine gd_ft ?_ | refine gd_tf ?_ | refine gd_i ?_ | refine pk_t ?_ | refine pk_f ?_ | refine br_t ?_ | refine br_f ?_ | refine sp_boxa hs fun g w hs => ?_))
     | (with_reducible ((first | apply st_bin | apply st_ext | apply st_len | apply st_un | apply st_conv | apply st_mki | apply st_fld | apply st_cap | apply st_max | apply st_min | apply st_ixv | apply st_mkf); intro k' hk; simp [go_sem, thenR_ok, bin]; refine hk _ _ ?_; clear hk k'))
     | ((with_reducible (first | apply tk_bin | apply tk_ext | apply tk_len | apply tk_un)); (· intro w; simp [go_sem, bin]; rfl))
     | ((with_reducible apply sp_newr hs); (· kernel_rfl); intro g w hs))
    refine rfs_store hs (.tl (.tl (.tl (.tl (.tl .hd))))) fun A2 c2 w hs => ?_
    repeat (first
     | (with_reducible (first | refine st_lens ?_ | refine st_eqls ?_ | refine st_nels ?_ | refine tk_eqls ?_ | refine tk_nels ?_ | refine mv.mk ?_ | refine nk_p ?_ | refine gdT_i ?_ | refine gdT_ft ?_ | refine gdT_tf ?_ | refine gdT_u ?_ | refine gd_u ?_ | refine gd_ft ?_ | refine gd_tf ?_ | refine gd_i ?_ | refine pk_t ?_ | refine pk_f ?_ | refine br_t ?_ | refine br_f ?_ | refine sp_boxa hs fun g w hs => ?_))
     | (with_reducible ((first | apply st_bin | apply st_ext | apply st_len | apply st_un | apply st_conv | apply st_mki | apply st_fld | apply st_cap | apply st_max | apply st_min | apply st_ixv | apply st_mkf); intro k' hk; simp [go_sem, thenR_ok, bin]; refine hk _ _ ?_; clear hk k'))
     | ((with_reducible (first | apply tk_bin | apply tk_ext | apply tk_len | apply tk_un)); (· intro w; simp [go_sem, bin]; rfl))
     | ((with_reducible apply sp_newr hs); (· kernel_rfl); intro g w hs))
    rw [i64_succ (by omega)]
    exact ⟨⟨i + 1, _, _, A2, c2, rfl, by omega, hA.1, hs.sbl (.cons (.tl (.tl .hd)) (.cons (.tl (.tl .hd)) (.cons .hd (.cons .hd (.drop (.drop (.drop (.drop .all))))))))⟩, by simp; omega⟩
  · by_cases h2 : i < l.length
    · rw [decide_eq_true h2]
      repeat (first
       | (with_reducible (first | refine st_lens ?_ | refine st_eqls ?_ | refine st_nels ?_ | refine tk_eqls ?_ | refine tk_nels ?_ | refine mv.mk ?_ | refine nk_p ?_ | refine gdT_i ?_ | refine gdT_ft ?_ | refine gdT_tf ?_ | refine gdT_u ?_ | refine gd_u ?_ | refine gd_ft ?_ | refine gd_tf ?_ | refine gd_i ?_ | refine pk_t ?_ | refine pk_f ?_ | refine br_t ?_ | refine br_f ?_ | refine sp_boxa hs fun g w hs => ?_))
       | (with_reducible ((first | apply st_bin | apply st_ext | apply st_len | apply st_un | apply st_conv | apply st_mki | apply st_fld | apply st_cap | apply st_max | apply st_min | apply st_ixv | apply st_mkf); intro k' hk; simp [go_sem, thenR_ok, bin]; refine hk _ _ ?_; clear hk k'))
       | ((with_reducible (first | apply tk_bin | apply tk_ext | apply tk_len | apply tk_un)); (· intro w; simp [go_sem, bin]; rfl))
       | ((with_reducible apply sp_newr hs); (· kernel_rfl); intro g w hs))
      rw [show decide ((i : Int) < 40) = false by simp; omega]
      repeat (first
       | (with_reducible (first | refine st_lens ?_ | refine st_eqls ?_ | refine st_nels ?_ | refine tk_eqls ?_ | refine tk_nels ?_ | refine mv.mk ?_ | refine nk_p ?_ | refine gdT_i ?_ | refine gdT_ft ?_ | refine gdT_tf ?_ | refine gdT_u ?_ | refine gd_u ?_ | refine gd_ft ?_ | refine gd_tf ?_ | refine gd_i ?_ | refine pk_t ?_ | refine pk_f ?_ | refine br_t ?_ | refine br_f ?_ | refine sp_boxa hs fun g w hs => ?_))
       | (with_reducible ((first | apply st_bin | apply st_ext | apply st_len | apply st_un | apply st_conv | apply st_mki | apply st_fld | apply st_cap | apply st_max | apply st_min | apply st_ixv | apply st_mkf); intro k' hk; simp [go_sem, thenR_ok, bin]; refine hk _ _ ?_; clear hk k'))
       | ((with_reducible (first | apply tk_bin | apply tk_ext | apply tk_len | apply tk_un)); (· intro w; simp [go_sem, bin]; rfl))
       | ((with_reducible apply sp_newr hs); (· kernel_rfl); intro g w hs))
      replace hs := hs.drew
      refine dr_can (R := [blkI g4 T.isthmusref04_FS (rfsV r (.slice A r.l.length c))]) hs (.drop (.drop (.cons .hd .nil))) ?_
      repeat with_reducible refine mv.mk ?_
      refine tk_ldn hid .blk (by kernel_rfl) rfl ?_
      refine ⟨?_, ?_⟩
      · refine cl (files_Clone hs) ?_
        rintro _ w ⟨g2, gm2, rfl, hs⟩
        refine ⟨hs.mayr (.drop (.drop (.drop (.drop (.cons .hd .nil))))), ?_⟩
        refine sp_newr hs (by kernel_rfl) fun g9 w hs => ?_
        refine ⟨hs.mayr (.drop (.drop (.drop (.drop (.drop (.cons .hd .nil)))))), ?_⟩
        refine mv.mk ?_
        exact filesClone_end hR hT hl2 hB2 hs
      · refine sp_newr hs (by kernel_rfl) fun g9 w hs => ?_
        refine ⟨hs.mayr (.drop (.drop (.drop (.cons .hd .nil)))), ?_⟩
        refine cl (files_Clone (hs.sbl (.cons (.tl .hd) (.cons (.tl .hd) .all)))) ?_
        rintro _ w ⟨g2, gm2, rfl, hs⟩
        refine ⟨hs.mayr (.drop (.drop (.drop (.drop (.drop (.cons .hd .nil)))))), ?_⟩
        refine mv.mk ?_
        exact filesClone_end hR hT hl2 hB2 (hs.sbl (.cons (.tl (.tl (.tl (.tl .hd)))) .all))
    · rw [decide_eq_false h2]
      repeat (first
       | (with_reducible (first | refine st_lens ?_ | refine st_eqls ?_ | refine st_nels ?_ | refine tk_eqls ?_ | refine tk_nels ?_ | refine mv.mk ?_ | refine nk_p ?_ | refine gdT_i ?_ | refine gdT_ft ?_ | refine gdT_tf ?_ | refine gdT_u ?_ | refine gd_u ?_ | refine gd_ft ?_ | refine gd_tf ?_ | refine gd_i ?_ | refine pk_t ?_ | refine pk_f ?_ | refine br_t ?_ | refine br_f ?_ | refine sp_boxa hs fun g w hs => ?_))
       | (with_reducible ((first | apply st_bin | apply st_ext | apply st_len | apply st_un | apply st_conv | apply st_mki | apply st_fld | apply st_cap | apply st_max | apply st_min | apply st_ixv | apply st_mkf); intro k' hk; simp [go_sem, thenR_ok, bin]; refine hk _ _ ?_; clear hk k'))
       | ((with_reducible (first | apply tk_bin | apply tk_ext | apply tk_len | apply tk_un)); (· intro w; simp [go_sem, bin]; rfl))
       | ((with_reducible apply sp_newr hs); (· kernel_rfl); intro g w hs))
      replace hs := hs.drew
      refine dr_can (R := [blkI g4 T.isthmusref04_FS (rfsV r (.slice A r.l.length c))]) hs (.drop (.drop (.cons .hd .nil))) ?_
      repeat with_reducible refine mv.mk ?_
      refine tk_ldn hid .blk (by kernel_rfl) rfl ?_
      refine ⟨?_, ?_⟩
      · refine cl (files_Clone hs) ?_
        rintro _ w ⟨g2, gm2, rfl, hs⟩
        refine ⟨hs.mayr (.drop (.drop (.drop (.drop (.cons .hd .nil))))), ?_⟩
        refine sp_newr hs (by kernel_rfl) fun g9 w hs => ?_
        refine ⟨hs.mayr (.drop (.drop (.drop (.drop (.drop (.cons .hd .nil)))))), ?_⟩
        refine mv.mk ?_
        exact filesClone_end hR hT hl2 hB2 hs
      · refine sp_newr hs (by kernel_rfl) fun g9 w hs => ?_
        refine ⟨hs.mayr (.drop (.drop (.drop (.cons .hd .nil)))), ?_⟩
        refine cl (files_Clone (hs.sbl (.cons (.tl .hd) (.cons (.tl .hd) .all)))) ?_
        rintro _ w ⟨g2, gm2, rfl, hs⟩
        refine ⟨hs.mayr (.drop (.drop (.drop (.drop (.drop (.cons .hd .nil)))))), ?_⟩
        refine mv.mk ?_
        exact filesClone_end hR hT hl2 hB2 (hs.sbl (.cons (.tl (.tl (.tl (.tl .hd)))) .all))
end
end Go.Proofs.YtiaiglgfangedaaDoor
set_option linter.unusedVariables false
set_option linter.unusedSimpArgs false
set_option linter.unusedSectionVars false
namespace Go.Proofs.YtiaiglgfangedaaDoor
open Go Go.Isk Go.RowKit
theorem okA_of {l : List ActD} (h : (l.map fun x : ActD => max (max (x.name.length + 1) (x.now.length + 1)) (max (x.data.length + 1) (x.keep.length + 1))).sum + 1 ≤ 1048576) : ∀ x ∈ l, okA x := fun x hx => by
  have h1 : max (max (x.name.length + 1) (x.now.length + 1)) (max (x.data.length + 1) (x.keep.length + 1)) ≤ (l.map fun x : ActD => max (max (x.name.length + 1) (x.now.length + 1)) (max (x.data.length + 1) (x.keep.length + 1))).sum := by
    clear h
    induction l with
    | nil => cases hx
    | cons y l ih =>
      simp only [List.map_cons, List.sum_cons]
      rcases List.mem_cons.1 hx with rfl | hx
      · omega
      · have := ih hx
        omega
  unfold okA
  omega
theorem filesCloneW {b : Base} {w : World} {L : List It} {lv mv' : Value} {l l2 : List ActD} (hs : Isk.Sep b w L) (hT : Ins L errT.it) (hl : Ins L (listF actF 6 lv l).it) (hl2 : Ins L (listF actF 6 mv' l2).it) (hB : (l.map fun x : ActD => max (max (x.name.length + 1) (x.now.length + 1)) (max (x.data.length + 1) (x.keep.length + 1))).sum + 1 ≤ 1048576) (hB2 : (l2.map fun x : ActD => max (max (x.name.length + 1) (x.now.length + 1)) (max (x.data.length + 1) (x.keep.length + 1))).sum + 1 ≤ 1048576) :
    C Tryd.prog N.isthmuslaw04_FilesClone #[lv, mv'] w fun r w' => r = .bool true ∧ Isk.Sep b w' L := isthmuslaw04_FilesClone hs hT hl (okA_of hB) hl2 (okA_of hB2)
end Go.Proofs.YtiaiglgfangedaaDoor
