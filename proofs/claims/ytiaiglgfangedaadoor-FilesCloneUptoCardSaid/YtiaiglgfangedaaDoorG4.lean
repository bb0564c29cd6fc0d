/- files: Rename, Remove, Cut. -/
import Derived.Test.YtiaiglgfangedaaDoorFV
import Derived.Test.YtiaiglgfangedaaDoorG3
set_option linter.unusedVariables false
set_option linter.unusedSimpArgs false
set_option linter.unusedSectionVars false
namespace Go.Proofs.YtiaiglgfangedaaDoor
open Go Go.Isk Go.RowKit
set_option maxRecDepth 20000
section
variable {b : Base} {w : World} {L R : List It} {g gf gm : Nat} {v sv bv kv av : Value} {s l name old now bts a : Bytes} {cs : List Value} {z : FsD} {n : Int}
def F.files_FS_Cut_r1 (k : Value → World → Prop) (t3 t4 t5 t8 t27 : Value) (w : World) : Prop :=
  jn (fun x1 => [x1 8]) (fun k10 =>
  br t27 (fun _ =>
  o1 Tryd.prog (Instr.loadAt 9 t4) w fun t28 w =>
  C Tryd.prog N.files_fault #[t28, .int .i64 1] w fun t29 w =>
  mv t29 fun t8_1 =>
  k10 [t8_1] w) (fun _ =>
  k10 [t8] w)) fun x1 w =>
  mv (x1 8) fun t30 =>
  o1 Tryd.prog (bin .neq 27 (.tmp 30) (.const .nilIface) t30 .nilIface) w fun t31 w =>
  br t31 (fun _ =>
  mv (x1 8) fun t32 =>
  mv t32 fun t6_1 =>
  k t6_1 w) (fun _ =>
  o1 Tryd.prog (Instr.loadAt 23 t3) w fun t33 w =>
  o1 Tryd.prog (Instr.loadAt 9 t4) w fun t34 w =>
  o1 Tryd.prog (Instr.makeFunc (.func 51) #[] #[t5, t3, t4]) w fun t35 w =>
  C Tryd.prog N.files_FS_change #[t33, t34, t35] w fun t36 w =>
  mv t36 fun t6_2 =>
  k t6_2 w)
theorem nameL2 {x y : Bytes} (hs : Sep b w L) {k : Value → World → Prop} (hk : ∀ v w', Sep b w' ((listF nameF 1 v [x, y]).it :: L) → k v w') : o1 Tryd.prog (Instr.buildSlice T.sl_string 2 #[(0, str x), (1, str y)]) w k :=
  st_bslice fsT [str x, str y] rfl (by intro v hv; simp only [List.mem_cons, List.not_mem_nil, or_false] at hv; rcases hv with rfl | rfl <;> rfl) rfl (by decide) (by decide) fun g w' hb hu hg => by
    have e : ([str x, str y].map (·.cells.toList)).flatten = [str x, str y] := rfl
    rw [e] at hb
    have h2 : Sep b w' (blkI g T.string [str x, str y] :: L) := hs.add hu (by simp [blkI, hb.lt, hg]) hb
    refine hk _ w' (h2.freeze .hd fun S hB => ⟨[[str x], [str y]], ⟨rfl, fun i hi c hc => ?_⟩, fun c hc => ?_, ?_⟩)
    · match i, hi, hc with
      | 0, _, hc => simp only [List.getElem?_cons_zero, Option.some.injEq] at hc; exact hc.symm
      | 1, _, hc => simp only [List.getElem?_cons_succ, List.getElem?_cons_zero, Option.some.injEq] at hc; exact hc.symm
    · simp only [List.mem_cons, List.not_mem_nil, or_false] at hc
      rcases hc with rfl | rfl <;> rfl
    · exact SlS.of (Sl.of_blk (n := 2) (m := 2) (o := 0) (sz := 1) (show Blk w' g T.string [str x, str y] from hB) (by simp) (Nat.le_refl _)) fun k hk => .inr (by simp [Value.ownBlock] at hk; simp [blkI, hk])
theorem ren_1 {g2 g3 g4 : Nat} {x : FileD} (hs : Sep b w ((fileF cs x).it :: blkI gf T.files_FS (fsV gm z) :: mapI fileF gm z.m :: L)) (h2 : Ins L (blkI g2 T.p_files_FS [.pointer (some ⟨gf, 0, none⟩)])) (h3 : Ins L (blkI g3 T.string [str old])) (h4 : Ins L (blkI g4 T.string [str now])) :
    C Tryd.prog N.files_FS_Rename_1 #[.agg cs.toArray, .pointer (some ⟨g2, 0, none⟩), .pointer (some ⟨g3, 0, none⟩), .pointer (some ⟨g4, 0, none⟩)] w fun r w' => Sep b w' (blkI gf T.files_FS (fsV gm (renD old now z x)) :: mapI fileF gm (renD old now z x).m :: L) := by
  have hok := hs.ok fileF_ok (cs := cs) .hd
  refine C.files_FS_Rename_1 ?_
  unfold F.files_FS_Rename_1
  refine sp_boxa hs fun g w hs => ?_
  replace hs := hs.drew
  refine dr_can hs .all ?_
  refine tk_ldx hid (.tl (.tl (.tl (.tl (Ins.rngB h2))))) (by kernel_rfl) ?_
  repeat (first
   | (with_reducible refine fs.a0 ?_)
   | ((with_reducible apply fs.r0 hs); (· (with_reducible (repeat (first | exact .blk | exact .rng | apply Rng.tl)))))
   | (with_reducible refine fs.c0 ?_)
   | ((with_reducible apply fs.e0); (· first | exact hS | exact hid); (· (with_reducible (repeat (first | exact .blk | exact .rng | apply Rng.tl)))))
   | (with_reducible refine fs.a1 ?_)
   | ((with_reducible apply fs.r1 hs); (· (with_reducible (repeat (first | exact .blk | exact .rng | apply Rng.tl)))))
   | (with_reducible refine fs.c1 ?_)
   | ((with_reducible apply fs.e1); (· first | exact hS | exact hid); (· (with_reducible (repeat (first | exact .blk | exact .rng | apply Rng.tl)))))
   | (with_reducible refine fs.a2 ?_)
   | ((with_reducible apply fs.r2 hs); (· (with_reducible (repeat (first | exact .blk | exact .rng | apply Rng.tl)))))
   | (with_reducible refine fs.c2 ?_)
   | ((with_reducible apply fs.e2); (· first | exact hS | exact hid); (· (with_reducible (repeat (first | exact .blk | exact .rng | apply Rng.tl)))))
   | (with_reducible refine fs.a3 ?_)
   | ((with_reducible apply fs.r3 hs); (· (with_reducible (repeat (first | exact .blk | exact .rng | apply Rng.tl)))))
   | (with_reducible refine fs.c3 ?_)
   | ((with_reducible apply fs.e3); (· first | exact hS | exact hid); (· (with_reducible (repeat (first | exact .blk | exact .rng | apply Rng.tl)))))
   | (with_reducible refine fs.a4 ?_)
   | ((with_reducible apply fs.r4 hs); (· (with_reducible (repeat (first | exact .blk | exact .rng | apply Rng.tl)))))
   | (with_reducible refine fs.c4 ?_)
   | ((with_reducible apply fs.e4); (· first | exact hS | exact hid); (· (with_reducible (repeat (first | exact .blk | exact .rng | apply Rng.tl)))))
   | (with_reducible (first | refine st_lens ?_ | refine st_eqls ?_ | refine st_nels ?_ | refine tk_eqls ?_ | refine tk_nels ?_ | refine mv.mk ?_ | refine nk_p ?_ | refine gdT_i ?_ | refine gdT_ft ?_ | refine gdT_tf ?_ | refine gdT_u ?_ | refine gd_u ?_ | refine gd_ft ?_ | refine gd_tf ?_ | refine gd_i ?_ | refine pk_t ?_ | refine pk_f ?_ | refine br_t ?_ | refine br_f ?_ | refine sp_boxa hs fun g w hs => ?_))
   | (with_reducible ((first | apply st_bin | apply st_ext | apply st_len | apply st_un | apply st_conv | apply st_mki | apply st_fld | apply st_cap | apply st_max | apply st_min | apply st_ixv | apply st_mkf); intro k' hk; simp [go_sem, thenR_ok, bin]; refine hk _ _ ?_; clear hk k'))
   | ((with_reducible (first | apply tk_bin | apply tk_ext | apply tk_len | apply tk_un)); (· intro w; simp [go_sem, bin]; rfl))
   | ((with_reducible apply sp_newr hs); (· kernel_rfl); intro g w hs))
  refine tk_ldx hid (.tl (.tl (.tl (.tl (Ins.rngB h3))))) (by kernel_rfl) ?_
  refine sp_mapdel (F := fileF) hs (.tl (.tl (.tl .hd))) fileT strT old rfl fun _ w hs => ?_
  replace hs := hs.drew
  refine dr_can hs .all ?_
  refine tk_ldx hid (.tl (.tl (.tl (.tl (Ins.rngB h2))))) (by kernel_rfl) ?_
  repeat (first
   | (with_reducible refine fs.a0 ?_)
   | ((with_reducible apply fs.r0 hs); (· (with_reducible (repeat (first | exact .blk | exact .rng | apply Rng.tl)))))
   | (with_reducible refine fs.c0 ?_)
   | ((with_reducible apply fs.e0); (· first | exact hS | exact hid); (· (with_reducible (repeat (first | exact .blk | exact .rng | apply Rng.tl)))))
   | (with_reducible refine fs.a1 ?_)
   | ((with_reducible apply fs.r1 hs); (· (with_reducible (repeat (first | exact .blk | exact .rng | apply Rng.tl)))))
   | (with_reducible refine fs.c1 ?_)
   | ((with_reducible apply fs.e1); (· first | exact hS | exact hid); (· (with_reducible (repeat (first | exact .blk | exact .rng | apply Rng.tl)))))
   | (with_reducible refine fs.a2 ?_)
   | ((with_reducible apply fs.r2 hs); (· (with_reducible (repeat (first | exact .blk | exact .rng | apply Rng.tl)))))
   | (with_reducible refine fs.c2 ?_)
   | ((with_reducible apply fs.e2); (· first | exact hS | exact hid); (· (with_reducible (repeat (first | exact .blk | exact .rng | apply Rng.tl)))))
   | (with_reducible refine fs.a3 ?_)
   | ((with_reducible apply fs.r3 hs); (· (with_reducible (repeat (first | exact .blk | exact .rng | apply Rng.tl)))))
   | (with_reducible refine fs.c3 ?_)
   | ((with_reducible apply fs.e3); (· first | exact hS | exact hid); (· (with_reducible (repeat (first | exact .blk | exact .rng | apply Rng.tl)))))
   | (with_reducible refine fs.a4 ?_)
   | ((with_reducible apply fs.r4 hs); (· (with_reducible (repeat (first | exact .blk | exact .rng | apply Rng.tl)))))
   | (with_reducible refine fs.c4 ?_)
   | ((with_reducible apply fs.e4); (· first | exact hS | exact hid); (· (with_reducible (repeat (first | exact .blk | exact .rng | apply Rng.tl)))))
   | (with_reducible (first | refine st_lens ?_ | refine st_eqls ?_ | refine st_nels ?_ | refine tk_eqls ?_ | refine tk_nels ?_ | refine mv.mk ?_ | refine nk_p ?_ | refine gdT_i ?_ | refine gdT_ft ?_ | refine gdT_tf ?_ | refine gdT_u ?_ | refine gd_u ?_ | refine gd_ft ?_ | refine gd_tf ?_ | refine gd_i ?_ | refine pk_t ?_ | refine pk_f ?_ | refine br_t ?_ | refine br_f ?_ | refine sp_boxa hs fun g w hs => ?_))
   | (with_reducible ((first | apply st_bin | apply st_ext | apply st_len | apply st_un | apply st_conv | apply st_mki | apply st_fld | apply st_cap | apply st_max | apply st_min | apply st_ixv | apply st_mkf); intro k' hk; simp [go_sem, thenR_ok, bin]; refine hk _ _ ?_; clear hk k'))
   | ((with_reducible (first | apply tk_bin | apply tk_ext | apply tk_len | apply tk_un)); (· intro w; simp [go_sem, bin]; rfl))
   | ((with_reducible apply sp_newr hs); (· kernel_rfl); intro g w hs))
  refine tk_ldx hid (.tl (.tl (.tl (.tl (Ins.rngB h4))))) (by kernel_rfl) ?_
  refine tk_ldn hid (cs := cs) (.tl .blk) (by kernel_rfl) hok.1 ?_
  refine sp_mapset (F := fileF) (a := x) hs .hd fileT strT now (hs.get (.tl (.tl .hd))) fun w hs => ?_
  exact hs.sbl (.cons (.tl (.tl (.tl .hd))) (.cons .hd (.drop (.drop .all))))
theorem files_Rename (hs : Sep b w (blkI gf T.files_FS (fsV gm z) :: mapI fileF gm z.m :: L)) (hnl : old.length ≤ 4611686018427387904) (hnl2 : now.length ≤ 4611686018427387904) :
    C Tryd.prog N.files_FS_Rename #[.pointer (some ⟨gf, 0, none⟩), str old, str now] w fun r w' => Sep b w' ((errF r (renameF z old now).2).it :: blkI gf T.files_FS (fsV gm (renameF z old now).1) :: mapI fileF gm (renameF z old now).1.m :: L) := by
  refine C.files_FS_Rename ?_
  unfold F.files_FS_Rename
  refine sp_box (cs := [.pointer (some ⟨gf, 0, none⟩)]) hs rfl fun g2 w hs => ?_
  refine sp_box (cs := [str old]) hs rfl fun g3 w hs => ?_
  refine sp_box (cs := [str now]) hs rfl fun g4 w hs => ?_
  repeat with_reducible refine mv.mk ?_
  refine sp_ldx hs (.tl (.tl .blk)) (by kernel_rfl) ?_
  refine sp_ldx hs (.tl .blk) (by kernel_rfl) ?_
  refine sp_ldx hs .blk (by kernel_rfl) ?_
  refine nameL2 hs fun nv w hs => ?_
  replace hs := hs.sbl (L' := blkI gf T.files_FS (fsV gm z) :: (listF nameF 1 nv [old, now]).it :: mapI fileF gm z.m :: blkI g4 T.string [str now] :: blkI g3 T.string [str old] :: blkI g2 T.p_files_FS [.pointer (some ⟨gf, 0, none⟩)] :: L) (.cons (.tl (.tl (.tl (.tl .hd)))) (.cons .hd (.cons (.tl (.tl (.tl .hd))) .all)))
  refine cl (files_ready (names := [old, now]) hs .hd (by simp; exact ⟨hnl, hnl2⟩) (by simp)) ?_
  rintro e w hs
  repeat with_reducible refine mv.mk ?_
  refine st_of (err_neqF hs .hd) ?_
  by_cases h1 : readyE z [old, now] = 0
  rotate_left
  · rw [decide_eq_false h1]
    refine br_t ?_
    repeat with_reducible refine mv.mk ?_
    rw [renameF, if_pos h1]
    exact hs.sbl (.cons .hd (.cons .hd (.drop (.cons .hd (.drop (.drop (.drop .all)))))))
  rw [decide_eq_true h1]
  refine br_f ?_
  rw [renameF, if_neg (by simpa using h1)]
  replace hs := hs.sbl (L' := blkI gf T.files_FS (fsV gm z) :: mapI fileF gm z.m :: blkI g4 T.string [str now] :: blkI g3 T.string [str old] :: blkI g2 T.p_files_FS [.pointer (some ⟨gf, 0, none⟩)] :: L) (.drop (.cons .hd (.drop .all)))
  refine sp_ldx hs (.tl (.tl (.tl (.tl .blk)))) (by kernel_rfl) ?_
  refine sp_ldx hs (.tl (.tl (.tl .blk))) (by kernel_rfl) ?_
  repeat (first
   | (with_reducible (first | refine st_lens ?_ | refine st_eqls ?_ | refine st_nels ?_ | refine tk_eqls ?_ | refine tk_nels ?_ | refine mv.mk ?_ | refine nk_p ?_ | refine gdT_i ?_ | refine gdT_ft ?_ | refine gdT_tf ?_ | refine gdT_u ?_ | refine gd_u ?_ | refine gd_ft ?_ | refine gd_tf ?_ | refine gd_i ?_ | refine pk_t ?_ | refine pk_f ?_ | refine br_t ?_ | refine br_f ?_ | refine sp_boxa hs fun g w hs => ?_))
   | (with_reducible ((first | apply st_bin | apply st_ext | apply st_len | apply st_un | apply st_conv | apply st_mki | apply st_fld | apply st_cap | apply st_max | apply st_min | apply st_ixv | apply st_mkf); intro k' hk; simp [go_sem, thenR_ok, bin]; refine hk _ _ ?_; clear hk k'))
   | ((with_reducible (first | apply tk_bin | apply tk_ext | apply tk_len | apply tk_un)); (· intro w; simp [go_sem, bin]; rfl))
   | ((with_reducible apply sp_newr hs); (· kernel_rfl); intro g w hs))
  refine cl (files_change (name := old) (dof := renD old now) hs hnl ?_) ?_
  · intro w cs z x L' K hL hs hK _
    refine cv_g (by kernel_rfl) ?_
    refine cl (ren_1 (old := old) (now := now) (g2 := g2) (g3 := g3) (g4 := g4) hs (hL _ (.tl (.tl .hd))) (hL _ (.tl .hd)) (hL _ .hd)) ?_
    rintro r w hs
    exact hK r w hs
  · rintro r w hs
    repeat with_reducible refine mv.mk ?_
    exact hs.sbl (.cons .hd (.cons .hd (.cons .hd (.drop (.drop (.drop .all))))))
theorem rem_1 {g2 g3 : Nat} {x : FileD} (hs : Sep b w ((fileF cs x).it :: blkI gf T.files_FS (fsV gm z) :: mapI fileF gm z.m :: L)) (h2 : Ins L (blkI g2 T.p_files_FS [.pointer (some ⟨gf, 0, none⟩)])) (h3 : Ins L (blkI g3 T.string [str name])) :
    C Tryd.prog N.files_FS_Remove_1 #[.agg cs.toArray, .pointer (some ⟨g2, 0, none⟩), .pointer (some ⟨g3, 0, none⟩)] w fun r w' => Sep b w' (blkI gf T.files_FS (fsV gm (delD name z x)) :: mapI fileF gm (delD name z x).m :: L) := by
  refine C.files_FS_Remove_1 ?_
  unfold F.files_FS_Remove_1
  refine sp_boxa hs fun g w hs => ?_
  replace hs := hs.drew
  refine dr_can hs .all ?_
  refine tk_ldx hid (.tl (.tl (.tl (.tl (Ins.rngB h2))))) (by kernel_rfl) ?_
  repeat (first
   | (with_reducible refine fs.a0 ?_)
   | ((with_reducible apply fs.r0 hs); (· (with_reducible (repeat (first | exact .blk | exact .rng | apply Rng.tl)))))
   | (with_reducible refine fs.c0 ?_)
   | ((with_reducible apply fs.e0); (· first | exact hS | exact hid); (· (with_reducible (repeat (first | exact .blk | exact .rng | apply Rng.tl)))))
   | (with_reducible refine fs.a1 ?_)
   | ((with_reducible apply fs.r1 hs); (· (with_reducible (repeat (first | exact .blk | exact .rng | apply Rng.tl)))))
   | (with_reducible refine fs.c1 ?_)
   | ((with_reducible apply fs.e1); (· first | exact hS | exact hid); (· (with_reducible (repeat (first | exact .blk | exact .rng | apply Rng.tl)))))
   | (with_reducible refine fs.a2 ?_)
   | ((with_reducible apply fs.r2 hs); (· (with_reducible (repeat (first | exact .blk | exact .rng | apply Rng.tl)))))
   | (with_reducible refine fs.c2 ?_)
   | ((with_reducible apply fs.e2); (· first | exact hS | exact hid); (· (with_reducible (repeat (first | exact .blk | exact .rng | apply Rng.tl)))))
   | (with_reducible refine fs.a3 ?_)
   | ((with_reducible apply fs.r3 hs); (· (with_reducible (repeat (first | exact .blk | exact .rng | apply Rng.tl)))))
   | (with_reducible refine fs.c3 ?_)
   | ((with_reducible apply fs.e3); (· first | exact hS | exact hid); (· (with_reducible (repeat (first | exact .blk | exact .rng | apply Rng.tl)))))
   | (with_reducible refine fs.a4 ?_)
   | ((with_reducible apply fs.r4 hs); (· (with_reducible (repeat (first | exact .blk | exact .rng | apply Rng.tl)))))
   | (with_reducible refine fs.c4 ?_)
   | ((with_reducible apply fs.e4); (· first | exact hS | exact hid); (· (with_reducible (repeat (first | exact .blk | exact .rng | apply Rng.tl)))))
   | (with_reducible (first | refine st_lens ?_ | refine st_eqls ?_ | refine st_nels ?_ | refine tk_eqls ?_ | refine tk_nels ?_ | refine mv.mk ?_ | refine nk_p ?_ | refine gdT_i ?_ | refine gdT_ft ?_ | refine gdT_tf ?_ | refine gdT_u ?_ | refine gd_u ?_ | refine gd_ft ?_ | refine gd_tf ?_ | refine gd_i ?_ | refine pk_t ?_ | refine pk_f ?_ | refine br_t ?_ | refine br_f ?_ | refine sp_boxa hs fun g w hs => ?_))
   | (with_reducible ((first | apply st_bin | apply st_ext | apply st_len | apply st_un | apply st_conv | apply st_mki | apply st_fld | apply st_cap | apply st_max | apply st_min | apply st_ixv | apply st_mkf); intro k' hk; simp [go_sem, thenR_ok, bin]; refine hk _ _ ?_; clear hk k'))
   | ((with_reducible (first | apply tk_bin | apply tk_ext | apply tk_len | apply tk_un)); (· intro w; simp [go_sem, bin]; rfl))
   | ((with_reducible apply sp_newr hs); (· kernel_rfl); intro g w hs))
  refine tk_ldx hid (.tl (.tl (.tl (.tl (Ins.rngB h3))))) (by kernel_rfl) ?_
  refine sp_mapdel (F := fileF) hs (.tl (.tl (.tl .hd))) fileT strT name rfl fun _ w hs => ?_
  exact hs.sbl (.cons (.tl (.tl (.tl .hd))) (.cons .hd (.drop (.drop .all))))
theorem files_Remove (hs : Sep b w (blkI gf T.files_FS (fsV gm z) :: mapI fileF gm z.m :: L)) (hnl : name.length ≤ 4611686018427387904) :
    C Tryd.prog N.files_FS_Remove #[.pointer (some ⟨gf, 0, none⟩), str name] w fun r w' => Sep b w' ((errF r (removeF z name).2).it :: blkI gf T.files_FS (fsV gm (removeF z name).1) :: mapI fileF gm (removeF z name).1.m :: L) := by
  refine C.files_FS_Remove ?_
  unfold F.files_FS_Remove
  refine sp_box (cs := [.pointer (some ⟨gf, 0, none⟩)]) hs rfl fun g2 w hs => ?_
  refine sp_box (cs := [str name]) hs rfl fun g3 w hs => ?_
  repeat with_reducible refine mv.mk ?_
  refine sp_ldx hs (.tl .blk) (by kernel_rfl) ?_
  refine sp_ldx hs .blk (by kernel_rfl) ?_
  repeat (first
   | (with_reducible (first | refine st_lens ?_ | refine st_eqls ?_ | refine st_nels ?_ | refine tk_eqls ?_ | refine tk_nels ?_ | refine mv.mk ?_ | refine nk_p ?_ | refine gdT_i ?_ | refine gdT_ft ?_ | refine gdT_tf ?_ | refine gdT_u ?_ | refine gd_u ?_ | refine gd_ft ?_ | refine gd_tf ?_ | refine gd_i ?_ | refine pk_t ?_ | refine pk_f ?_ | refine br_t ?_ | refine br_f ?_ | refine sp_boxa hs fun g w hs => ?_))
   | (with_reducible ((first | apply st_bin | apply st_ext | apply st_len | apply st_un | apply st_conv | apply st_mki | apply st_fld | apply st_cap | apply st_max | apply st_min | apply st_ixv | apply st_mkf); intro k' hk; simp [go_sem, thenR_ok, bin]; refine hk _ _ ?_; clear hk k'))
   | ((with_reducible (first | apply tk_bin | apply tk_ext | apply tk_len | apply tk_un)); (· intro w; simp [go_sem, bin]; rfl))
   | ((with_reducible apply sp_newr hs); (· kernel_rfl); intro g w hs))
  replace hs := hs.sbl (L' := blkI gf T.files_FS (fsV gm z) :: mapI fileF gm z.m :: blkI g3 T.string [str name] :: blkI g2 T.p_files_FS [.pointer (some ⟨gf, 0, none⟩)] :: L) (.cons (.tl (.tl .hd)) (.cons (.tl (.tl .hd)) .all))
  refine cl (files_change (name := name) (dof := delD name) hs hnl ?_) ?_
  · intro w cs z x L' K hL hs hK _
    refine cv_g (by kernel_rfl) ?_
    refine cl (rem_1 (name := name) (g2 := g2) (g3 := g3) hs (hL _ (.tl .hd)) (hL _ .hd)) ?_
    rintro r w hs
    exact hK r w hs
  · rintro r w hs
    repeat with_reducible refine mv.mk ?_
    exact hs.sbl (.cons .hd (.cons .hd (.cons .hd (.drop (.drop .all)))))
theorem cut_1 {g2 g3 g5 : Nat} {x : FileD} {n : Int} (h0 : 0 ≤ n ∧ n ≤ x.1.length) (hs : Sep b w ((fileF cs x).it :: blkI gf T.files_FS (fsV gm z) :: mapI fileF gm z.m :: L)) (h5 : Ins L (blkI g5 T.int [.int .i64 n])) (h2 : Ins L (blkI g2 T.p_files_FS [.pointer (some ⟨gf, 0, none⟩)])) (h3 : Ins L (blkI g3 T.string [str name])) :
    C Tryd.prog N.files_FS_Cut_1 #[.agg cs.toArray, .pointer (some ⟨g5, 0, none⟩), .pointer (some ⟨g2, 0, none⟩), .pointer (some ⟨g3, 0, none⟩)] w fun r w' => Sep b w' (blkI gf T.files_FS (fsV gm (cutD name n z x)) :: mapI fileF gm (cutD name n z x).m :: L) := by
  obtain ⟨k, rfl⟩ : ∃ k : Nat, n = k := ⟨n.toNat, by omega⟩
  obtain ⟨sv, hcs, hsv⟩ : FileS _ _ cs x := hs.get .hd
  subst hcs
  replace hs := hs.fact (f := byF sv x.1) hsv
  refine C.files_FS_Cut_1 ?_
  unfold F.files_FS_Cut_1
  refine sp_boxa hs fun g w hs => ?_
  obtain ⟨A3, hrun3, hsl3, ho3⟩ := sl_hm fbT (hs.get (.tl .hd)).1 k (by omega) .i64 .i64
  have hf := (hs.get (.tl .hd)).2
  replace hs := hs.fact (f := byF (.slice A3 k k) (x.1.take k)) (by
    have e : (x.1.take k).length = k := by simp; omega
    show SlS _ _ _ (x.1.take k).length 1 _
    rw [e]
    refine ⟨?_, fun h0 j hj => hf (by omega) j (ho3 ▸ hj)⟩
    have e2 : (u8s x.1).take (k * 1) = u8s (x.1.take k) := by simp [u8s]
    rw [← e2]; exact hsl3)
  replace hs := hs.drew
  refine dr_can hs .all ?_
  refine tk_ldx hid (.tl (.tl (.tl (.tl (.tl (.tl (Ins.rngB h2))))))) (by kernel_rfl) ?_
  repeat (first
   | (with_reducible refine fs.a0 ?_)
   | ((with_reducible apply fs.r0 hs); (· (with_reducible (repeat (first | exact .blk | exact .rng | apply Rng.tl)))))
   | (with_reducible refine fs.c0 ?_)
   | ((with_reducible apply fs.e0); (· first | exact hS | exact hid); (· (with_reducible (repeat (first | exact .blk | exact .rng | apply Rng.tl)))))
   | (with_reducible refine fs.a1 ?_)
   | ((with_reducible apply fs.r1 hs); (· (with_reducible (repeat (first | exact .blk | exact .rng | apply Rng.tl)))))
   | (with_reducible refine fs.c1 ?_)
   | ((with_reducible apply fs.e1); (· first | exact hS | exact hid); (· (with_reducible (repeat (first | exact .blk | exact .rng | apply Rng.tl)))))
   | (with_reducible refine fs.a2 ?_)
   | ((with_reducible apply fs.r2 hs); (· (with_reducible (repeat (first | exact .blk | exact .rng | apply Rng.tl)))))
   | (with_reducible refine fs.c2 ?_)
   | ((with_reducible apply fs.e2); (· first | exact hS | exact hid); (· (with_reducible (repeat (first | exact .blk | exact .rng | apply Rng.tl)))))
   | (with_reducible refine fs.a3 ?_)
   | ((with_reducible apply fs.r3 hs); (· (with_reducible (repeat (first | exact .blk | exact .rng | apply Rng.tl)))))
   | (with_reducible refine fs.c3 ?_)
   | ((with_reducible apply fs.e3); (· first | exact hS | exact hid); (· (with_reducible (repeat (first | exact .blk | exact .rng | apply Rng.tl)))))
   | (with_reducible refine fs.a4 ?_)
   | ((with_reducible apply fs.r4 hs); (· (with_reducible (repeat (first | exact .blk | exact .rng | apply Rng.tl)))))
   | (with_reducible refine fs.c4 ?_)
   | ((with_reducible apply fs.e4); (· first | exact hS | exact hid); (· (with_reducible (repeat (first | exact .blk | exact .rng | apply Rng.tl)))))
   | (with_reducible (first | refine st_lens ?_ | refine st_eqls ?_ | refine st_nels ?_ | refine tk_eqls ?_ | refine tk_nels ?_ | refine mv.mk ?_ | refine nk_p ?_ | refine gdT_i ?_ | refine gdT_ft ?_ | refine gdT_tf ?_ | refine gdT_u ?_ | refine gd_u ?_ | refine gd_ft ?_ | refine gd_tf ?_ | refine gd_i ?_ | refine pk_t ?_ | refine pk_f ?_ | refine br_t ?_ | refine br_f ?_ | refine sp_boxa hs fun g w hs => ?_))
   | (with_reducible ((first | apply st_bin | apply st_ext | apply st_len | apply st_un | apply st_conv | apply st_mki | apply st_fld | apply st_cap | apply st_max | apply st_min | apply st_ixv | apply st_mkf); intro k' hk; simp [go_sem, thenR_ok, bin]; refine hk _ _ ?_; clear hk k'))
   | ((with_reducible (first | apply tk_bin | apply tk_ext | apply tk_len | apply tk_un)); (· intro w; simp [go_sem, bin]; rfl))
   | ((with_reducible apply sp_newr hs); (· kernel_rfl); intro g w hs))
  refine tk_ldx hid (.tl (.tl (.tl (.tl (.tl (.tl (Ins.rngB h3))))))) (by kernel_rfl) ?_
  repeat (first
   | (with_reducible refine file.a0 ?_)
   | ((with_reducible apply file.r0 hs); (· (with_reducible (repeat (first | exact .blk | exact .rng | apply Rng.tl)))))
   | (with_reducible refine file.c0 ?_)
   | ((with_reducible apply file.e0); (· first | exact hS | exact hid); (· (with_reducible (repeat (first | exact .blk | exact .rng | apply Rng.tl)))))
   | (with_reducible refine file.a1 ?_)
   | ((with_reducible apply file.r1 hs); (· (with_reducible (repeat (first | exact .blk | exact .rng | apply Rng.tl)))))
   | (with_reducible refine file.c1 ?_)
   | ((with_reducible apply file.e1); (· first | exact hS | exact hid); (· (with_reducible (repeat (first | exact .blk | exact .rng | apply Rng.tl)))))
   | (with_reducible (first | refine st_lens ?_ | refine st_eqls ?_ | refine st_nels ?_ | refine tk_eqls ?_ | refine tk_nels ?_ | refine mv.mk ?_ | refine nk_p ?_ | refine gdT_i ?_ | refine gdT_ft ?_ | refine gdT_tf ?_ | refine gdT_u ?_ | refine gd_u ?_ | refine gd_ft ?_ | refine gd_tf ?_ | refine gd_i ?_ | refine pk_t ?_ | refine pk_f ?_ | refine br_t ?_ | refine br_f ?_ | refine sp_boxa hs fun g w hs => ?_))
   | (with_reducible ((first | apply st_bin | apply st_ext | apply st_len | apply st_un | apply st_conv | apply st_mki | apply st_fld | apply st_cap | apply st_max | apply st_min | apply st_ixv | apply st_mkf); intro k' hk; simp [go_sem, thenR_ok, bin]; refine hk _ _ ?_; clear hk k'))
   | ((with_reducible (first | apply tk_bin | apply tk_ext | apply tk_len | apply tk_un)); (· intro w; simp [go_sem, bin]; rfl))
   | ((with_reducible apply sp_newr hs); (· kernel_rfl); intro g w hs))
  refine tk_ldx hid (.tl (.tl (.tl (.tl (.tl (.tl (Ins.rngB h5))))))) (by kernel_rfl) ?_
  refine tk_ldx hid (.tl (.tl (.tl (.tl (.tl (.tl (Ins.rngB h5))))))) (by kernel_rfl) ?_
  refine tk_run hrun3 ?_
  refine tk_ldx hid (.tl (.tl (.tl (.tl (.tl (.tl (Ins.rngB h5))))))) (by kernel_rfl) ?_
  refine tk_build (cells := (fileC (.slice A3 k k) (.int .i64 (k : Int))).toArray) (by kernel_rfl) ?_
  refine sp_mapset (F := fileF) (a := (x.1.take k, (k : Int))) hs (.tl (.tl (.tl (.tl (.tl .hd))))) fileT strT name ⟨_, rfl, hs.get .hd⟩ fun w hs => ?_
  have e : cutD name (k : Int) z x = { z with m := putM name (x.1.take k, (k : Int)) z.m } := by simp [cutD]
  rw [e]
  exact hs.sbl (.cons (.tl (.tl (.tl (.tl (.tl .hd))))) (.cons .hd (.drop (.drop (.drop (.drop .all))))))
def badC (z : FsD) (name : Bytes) (n : Int) : Bool := decide (findE z name = 0) && (decide (n < 0) || decide (((findF z name).1.length : Int) < n))
theorem cutZ_bad : cutZ z name n = if badC z name n = true then (z, 1) else if findE z name ≠ 0 then (z, findE z name) else changeF z name (cutD name n) := by
  unfold cutZ badC
  by_cases c : findE z name = 0
  · simp [c]
  · simp [c]
theorem cut_r1 {g2 g3 g5 : Nat} {e : Value} (hs : Sep b w ((errF e (findE z name)).it :: blkI gf T.files_FS (fsV gm z) :: mapI fileF gm z.m :: blkI g5 T.int [.int .i64 n] :: blkI g3 T.string [str name] :: blkI g2 T.p_files_FS [.pointer (some ⟨gf, 0, none⟩)] :: L)) (hnl : name.length ≤ 4611686018427387904) :
    F.files_FS_Cut_r1 (fun r w' => Sep b w' ((errF r (cutZ z name n).2).it :: blkI gf T.files_FS (fsV gm (cutZ z name n).1) :: mapI fileF gm (cutZ z name n).1.m :: L)) (.pointer (some ⟨g2, 0, none⟩)) (.pointer (some ⟨g3, 0, none⟩)) (.pointer (some ⟨g5, 0, none⟩)) e (.bool (badC z name n)) w := by
  unfold F.files_FS_Cut_r1
  rw [cutZ_bad]
  refine jn_by (fun us w' => ∃ e', us = [e'] ∧ Sep b w' ((errF e' (if badC z name n = true then 1 else findE z name)).it :: blkI gf T.files_FS (fsV gm z) :: mapI fileF gm z.m :: blkI g5 T.int [.int .i64 n] :: blkI g3 T.string [str name] :: blkI g2 T.p_files_FS [.pointer (some ⟨gf, 0, none⟩)] :: L)) ?_ ?_
  · cases hb : badC z name n with
    | true =>
      refine br_t ?_
      refine sp_ldx hs (.tl (.tl (.tl (.tl .blk)))) (by kernel_rfl) ?_
      refine cl (faultS hnl (by decide) (by decide) (by decide) hs) ?_
      rintro r w hs
      repeat with_reducible refine mv.mk ?_
      exact ⟨r, rfl, hs.sbl (.cons .hd (.drop .all))⟩
    | false =>
      refine br_f ?_
      exact ⟨e, rfl, hs⟩
  · rintro x1 w ⟨e', hx, hs⟩
    simp only [List.cons.injEq, and_true] at hx
    simp only [hx]
    repeat with_reducible refine mv.mk ?_
    refine st_of (err_neqF hs .hd) ?_
    cases hb : badC z name n with
    | true =>
      rw [hb] at hs
      rw [if_pos rfl] at hs ⊢
      rw [if_pos rfl]
      rw [decide_eq_false (by decide)]
      refine br_t ?_
      repeat with_reducible refine mv.mk ?_
      exact hs.sbl (.cons .hd (.cons .hd (.cons .hd (.drop (.drop (.drop .all))))))
    | false =>
      rw [hb] at hs
      rw [if_neg (by decide)] at hs ⊢
      rw [if_neg (by decide)]
      by_cases c : findE z name = 0
      rotate_left
      · rw [decide_eq_false c, if_pos c]
        refine br_t ?_
        repeat with_reducible refine mv.mk ?_
        exact hs.sbl (.cons .hd (.cons .hd (.cons .hd (.drop (.drop (.drop .all))))))
      rw [decide_eq_true c, if_neg (by simpa using c)]
      refine br_f ?_
      have hn : 0 ≤ n ∧ n ≤ (findF z name).1.length := by
        simp only [badC, c, decide_true, Bool.true_and, Bool.or_eq_false_iff, decide_eq_false_iff_not] at hb
        omega
      replace hs := hs.drop .hd
      refine sp_ldx hs (.tl (.tl (.tl (.tl .blk)))) (by kernel_rfl) ?_
      refine sp_ldx hs (.tl (.tl (.tl .blk))) (by kernel_rfl) ?_
      repeat (first
       | (with_reducible (first | refine st_lens ?_ | refine st_eqls ?_ | refine st_nels ?_ | refine tk_eqls ?_ | refine tk_nels ?_ | refine mv.mk ?_ | refine nk_p ?_ | refine gdT_i ?_ | refine gdT_ft ?_ | refine gdT_tf ?_ | refine gdT_u ?_ | refine gd_u ?_ | refine gd_ft ?_ | refine gd_tf ?_ | refine gd_i ?_ | refine pk_t ?_ | refine pk_f ?_ | refine br_t ?_ | refine br_f ?_ | refine sp_boxa hs fun g w hs => ?_))
       | (with_reducible ((first | apply st_bin | apply st_ext | apply st_len | apply st_un | apply st_conv | apply st_mki | apply st_fld | apply st_cap | apply st_max | apply st_min | apply st_ixv | apply st_mkf); intro k' hk; simp [go_sem, thenR_ok, bin]; refine hk _ _ ?_; clear hk k'))
       | ((with_reducible (first | apply tk_bin | apply tk_ext | apply tk_len | apply tk_un)); (· intro w; simp [go_sem, bin]; rfl))
       | ((with_reducible apply sp_newr hs); (· kernel_rfl); intro g w hs))
      refine cl (files_change (name := name) (dof := cutD name n) hs hnl ?_) ?_
      · intro w cs z' x L' K hL hs hK hx
        refine cv_g (by kernel_rfl) ?_
        refine cl (cut_1 (name := name) (g2 := g2) (g3 := g3) (g5 := g5) (by rw [hx]; exact hn) hs (hL _ .hd) (hL _ (.tl (.tl .hd))) (hL _ (.tl .hd))) ?_
        rintro r w hs
        exact hK r w hs
      · rintro r w hs
        repeat with_reducible refine mv.mk ?_
        exact hs.sbl (.cons .hd (.cons .hd (.cons .hd (.drop (.drop (.drop .all))))))
theorem files_Cut (hs : Sep b w (blkI gf T.files_FS (fsV gm z) :: mapI fileF gm z.m :: L)) (hnl : name.length ≤ 4611686018427387904) :
    C Tryd.prog N.files_FS_Cut #[.pointer (some ⟨gf, 0, none⟩), str name, .int .i64 n] w fun r w' => Sep b w' ((errF r (cutZ z name n).2).it :: blkI gf T.files_FS (fsV gm (cutZ z name n).1) :: mapI fileF gm (cutZ z name n).1.m :: L) := by
  refine C.files_FS_Cut ?_
  unfold F.files_FS_Cut
  refine sp_box (cs := [.pointer (some ⟨gf, 0, none⟩)]) hs rfl fun g2 w hs => ?_
  refine sp_box (cs := [str name]) hs rfl fun g3 w hs => ?_
  refine sp_box (cs := [.int .i64 n]) hs rfl fun g5 w hs => ?_
  repeat with_reducible refine mv.mk ?_
  refine sp_ldx hs (.tl (.tl .blk)) (by kernel_rfl) ?_
  refine sp_ldx hs (.tl .blk) (by kernel_rfl) ?_
  replace hs := hs.sbl (L' := blkI gf T.files_FS (fsV gm z) :: mapI fileF gm z.m :: blkI g5 T.int [.int .i64 n] :: blkI g3 T.string [str name] :: blkI g2 T.p_files_FS [.pointer (some ⟨gf, 0, none⟩)] :: L) (.cons (.tl (.tl (.tl .hd))) (.cons (.tl (.tl (.tl .hd))) .all))
  refine cl (files_find (name := name) hs hnl) ?_
  rintro _ w ⟨cs, e, rfl, hs⟩
  have hok := hs.ok fileF_ok (cs := cs) (.tl .hd)
  obtain ⟨sv, hcs, hsv⟩ : FileS _ _ cs _ := hs.get (.tl .hd)
  subst hcs
  replace hs := hs.fact (f := byF sv (findF z name).1) hsv
  obtain ⟨A1, c1, rfl⟩ := by_slice hs .hd
  repeat (first
   | (with_reducible (first | refine st_lens ?_ | refine st_eqls ?_ | refine st_nels ?_ | refine tk_eqls ?_ | refine tk_nels ?_ | refine mv.mk ?_ | refine nk_p ?_ | refine gdT_i ?_ | refine gdT_ft ?_ | refine gdT_tf ?_ | refine gdT_u ?_ | refine gd_u ?_ | refine gd_ft ?_ | refine gd_tf ?_ | refine gd_i ?_ | refine pk_t ?_ | refine pk_f ?_ | refine br_t ?_ | refine br_f ?_ | refine sp_boxa hs fun g w hs => ?_))
   | (with_reducible ((first | apply st_bin | apply st_ext | apply st_len | apply st_un | apply st_conv | apply st_mki | apply st_fld | apply st_cap | apply st_max | apply st_min | apply st_ixv | apply st_mkf); intro k' hk; simp [go_sem, thenR_ok, bin]; refine hk _ _ ?_; clear hk k'))
   | ((with_reducible (first | apply tk_bin | apply tk_ext | apply tk_len | apply tk_un)); (· intro w; simp [go_sem, bin]; rfl))
   | ((with_reducible apply sp_newr hs); (· kernel_rfl); intro g w hs))
  refine sp_setr (ds := fileC (.slice A1 (findF z name).1.length c1) (.int .i64 (findF z name).2)) hs .hd (by kernel_rfl) hok.1 hok.2 fun w hs => ?_
  repeat with_reducible refine mv.mk ?_
  refine st_of (err_eqlF hs (.tl (.tl .hd))) ?_
  repeat with_reducible refine mv.mk ?_
  have hend : ∀ w, Sep b w (blkI g T.files_file (fileC (.slice A1 (findF z name).1.length c1) (.int .i64 (findF z name).2)) :: (byF (.slice A1 (findF z name).1.length c1) (findF z name).1).it :: (errF e (findE z name)).it :: (fileF (fileC (.slice A1 (findF z name).1.length c1) (.int .i64 (findF z name).2)) (findF z name)).it :: blkI gf T.files_FS (fsV gm z) :: mapI fileF gm z.m :: blkI g5 T.int [.int .i64 n] :: blkI g3 T.string [str name] :: blkI g2 T.p_files_FS [.pointer (some ⟨gf, 0, none⟩)] :: L) →
      ∀ bad, bad = badC z name n → F.files_FS_Cut_r1 (fun r w' => Sep b w' ((errF r (cutZ z name n).2).it :: blkI gf T.files_FS (fsV gm (cutZ z name n).1) :: mapI fileF gm (cutZ z name n).1.m :: L)) (.pointer (some ⟨g2, 0, none⟩)) (.pointer (some ⟨g3, 0, none⟩)) (.pointer (some ⟨g5, 0, none⟩)) e (.bool bad) w := by
    rintro w hs _ rfl
    exact cut_r1 (hs.sbl (.drop (.drop (.cons .hd (.drop .all))))) hnl
  by_cases c : findE z name = 0
  rotate_left
  · rw [decide_eq_false c]
    repeat (first
     | (with_reducible (first | refine st_lens ?_ | refine st_eqls ?_ | refine st_nels ?_ | refine tk_eqls ?_ | refine tk_nels ?_ | refine mv.mk ?_ | refine nk_p ?_ | refine gdT_i ?_ | refine gdT_ft ?_ | refine gdT_tf ?_ | refine gdT_u ?_ | refine gd_u ?_ | refine gd_ft ?_ | refine gd_tf ?_ | refine gd_i ?_ | refine pk_t ?_ | refine pk_f ?_ | refine br_t ?_ | refine br_f ?_ | refine sp_boxa hs fun g w hs => ?_))
     | (with_reducible ((first | apply st_bin | apply st_ext | apply st_len | apply st_un | apply st_conv | apply st_mki | apply st_fld | apply st_cap | apply st_max | apply st_min | apply st_ixv | apply st_mkf); intro k' hk; simp [go_sem, thenR_ok, bin]; refine hk _ _ ?_; clear hk k'))
     | ((with_reducible (first | apply tk_bin | apply tk_ext | apply tk_len | apply tk_un)); (· intro w; simp [go_sem, bin]; rfl))
     | ((with_reducible apply sp_newr hs); (· kernel_rfl); intro g w hs))
    exact hend w hs false (by simp [badC, c])
  rw [decide_eq_true c]
  refine gd_i ?_
  refine sp_ldx hs (.tl (.tl (.tl (.tl (.tl (.tl .blk)))))) (by kernel_rfl) ?_
  repeat (first
   | (with_reducible (first | refine st_lens ?_ | refine st_eqls ?_ | refine st_nels ?_ | refine tk_eqls ?_ | refine tk_nels ?_ | refine mv.mk ?_ | refine nk_p ?_ | refine gdT_i ?_ | refine gdT_ft ?_ | refine gdT_tf ?_ | refine gdT_u ?_ | refine gd_u ?_ | refine gd_ft ?_ | refine gd_tf ?_ | refine gd_i ?_ | refine pk_t ?_ | refine pk_f ?_ | refine br_t ?_ | refine br_f ?_ | refine sp_boxa hs fun g w hs => ?_))
   | (with_reducible ((first | apply st_bin | apply st_ext | apply st_len | apply st_un | apply st_conv | apply st_mki | apply st_fld | apply st_cap | apply st_max | apply st_min | apply st_ixv | apply st_mkf); intro k' hk; simp [go_sem, thenR_ok, bin]; refine hk _ _ ?_; clear hk k'))
   | ((with_reducible (first | apply tk_bin | apply tk_ext | apply tk_len | apply tk_un)); (· intro w; simp [go_sem, bin]; rfl))
   | ((with_reducible apply sp_newr hs); (· kernel_rfl); intro g w hs))
  by_cases c1 : n < 0
  · rw [decide_eq_true c1]
    repeat (first
     | (with_reducible (first | refine st_lens ?_ | refine st_eqls ?_ | refine st_nels ?_ | refine tk_eqls ?_ | refine tk_nels ?_ | refine mv.mk ?_ | refine nk_p ?_ | refine gdT_i ?_ | refine gdT_ft ?_ | refine gdT_tf ?_ | refine gdT_u ?_ | refine gd_u ?_ | refine gd_ft ?_ | refine gd_tf ?_ | refine gd_i ?_ | refine pk_t ?_ | refine pk_f ?_ | refine br_t ?_ | refine br_f ?_ | refine sp_boxa hs fun g w hs => ?_))
     | (with_reducible ((first | apply st_bin | apply st_ext | apply st_len | apply st_un | apply st_conv | apply st_mki | apply st_fld | apply st_cap | apply st_max | apply st_min | apply st_ixv | apply st_mkf); intro k' hk; simp [go_sem, thenR_ok, bin]; refine hk _ _ ?_; clear hk k'))
     | ((with_reducible (first | apply tk_bin | apply tk_ext | apply tk_len | apply tk_un)); (· intro w; simp [go_sem, bin]; rfl))
     | ((with_reducible apply sp_newr hs); (· kernel_rfl); intro g w hs))
    exact hend w hs true (by simp [badC, c, c1])
  rw [decide_eq_false c1]
  repeat with_reducible refine mv.mk ?_
  refine gd_i ?_
  refine sp_ldx hs (.tl (.tl (.tl (.tl (.tl (.tl .blk)))))) (by kernel_rfl) ?_
  repeat (first
   | (with_reducible refine file.a0 ?_)
   | ((with_reducible apply file.r0 hs); (· (with_reducible (repeat (first | exact .blk | exact .rng | apply Rng.tl)))))
   | (with_reducible refine file.c0 ?_)
   | ((with_reducible apply file.e0); (· first | exact hS | exact hid); (· (with_reducible (repeat (first | exact .blk | exact .rng | apply Rng.tl)))))
   | (with_reducible refine file.a1 ?_)
   | ((with_reducible apply file.r1 hs); (· (with_reducible (repeat (first | exact .blk | exact .rng | apply Rng.tl)))))
   | (with_reducible refine file.c1 ?_)
   | ((with_reducible apply file.e1); (· first | exact hS | exact hid); (· (with_reducible (repeat (first | exact .blk | exact .rng | apply Rng.tl)))))
   | (with_reducible (first | refine st_lens ?_ | refine st_eqls ?_ | refine st_nels ?_ | refine tk_eqls ?_ | refine tk_nels ?_ | refine mv.mk ?_ | refine nk_p ?_ | refine gdT_i ?_ | refine gdT_ft ?_ | refine gdT_tf ?_ | refine gdT_u ?_ | refine gd_u ?_ | refine gd_ft ?_ | refine gd_tf ?_ | refine gd_i ?_ | refine pk_t ?_ | refine pk_f ?_ | refine br_t ?_ | refine br_f ?_ | refine sp_boxa hs fun g w hs => ?_))
   | (with_reducible ((first | apply st_bin | apply st_ext | apply st_len | apply st_un | apply st_conv | apply st_mki | apply st_fld | apply st_cap | apply st_max | apply st_min | apply st_ixv | apply st_mkf); intro k' hk; simp [go_sem, thenR_ok, bin]; refine hk _ _ ?_; clear hk k'))
   | ((with_reducible (first | apply tk_bin | apply tk_ext | apply tk_len | apply tk_un)); (· intro w; simp [go_sem, bin]; rfl))
   | ((with_reducible apply sp_newr hs); (· kernel_rfl); intro g w hs))
  exact hend w hs _ (by simp [badC, c, c1])
end
end Go.Proofs.YtiaiglgfangedaaDoor
