/- The document's files: Append, Read, Start. -/
import Derived.Test.YtiaiglgfangedaaDoorG7
set_option linter.unusedVariables false
set_option linter.unusedSimpArgs false
set_option linter.unusedSectionVars false
namespace Go.Isk
open Go Go.RowKit
section
variable {P : Program} {b : Base} {w : World} {L R : List It} {g n : Nat} {t : TypeId} {cs ds : List Value} {k : Value → World → Prop}
theorem sp_whole (h : Sep b w L) (hm : Has L (blkI g t cs) R) (ht : aggT P t n = true) (hl : cs.length = n) (hd : ds.length = n) (h1 : ∀ u ∈ ds, u.oneCell' = true) (hk : ∀ w', Sep b w' (blkI g t ds :: R) → k undef w') :
    o0 P (Instr.storeAt t (.pointer (some ⟨g, 0, none⟩)) (.agg ds.toArray)) w k := by
  obtain ⟨_, _, _, hi⟩ := aggT.spec ht
  refine sp_storen h hm hi hd (by omega) h1 fun w' hs => hk w' ?_
  rw [List.take_zero, List.nil_append, Nat.zero_add, ← hl, List.drop_length, List.append_nil] at hs
  exact hs
end
end Go.Isk
namespace Go.Proofs.YtiaiglgfangedaaDoor
open Go Go.Isk Go.RowKit
set_option maxRecDepth 20000
section
variable {b : Base} {w : World} {L R : List It} {g g2 g3 g4 : Nat} {v sv x : Value} {s n bts : Bytes} {cs ds : List Value} {r : RFS} {l t : List RFile} {y : RFile} {k : Value → World → Prop}
def F.isthmusref04_Append_r (k : Value → World → Prop) (a1 a2 t3 t6 t8 t9 : Value) (w : World) : Prop :=
  mv t9 fun t28 =>
  o1 Tryd.prog (bin .neq 3 (.tmp 28) (.const (.int .i64 0)) t28 (.int .i64 0)) w fun t29 w =>
  mv t29 fun t30 =>
  gd t30 true (fun k5 => mv t9 fun v => k5 v w) w fun t31 w =>
  gd t30 true (fun k6 => o1 Tryd.prog (bin .neq 3 (.tmp 31) (.const (.int .i64 8)) t31 (.int .i64 8)) w k6) w fun t32 w =>
  pk t30 t32 (.bool false) fun t33 =>
  mv t33 fun t27 =>
  br t27 (fun _ =>
  o1 Tryd.prog (Instr.loadAt 42 t3) w fun t34 w =>
  mv t9 fun t35 =>
  o0 Tryd.prog (Instr.storeAt 42 t6 t34) w fun _ w =>
  mv t35 fun t7_2 =>
  rc Tryd.prog 42 t6 w fun r0 =>
  k (.tuple #[r0, t7_2]) w) (fun _ =>
  o1 Tryd.prog (Instr.fieldAt 80 t8 1) w fun t37 w =>
  o1 Tryd.prog (Instr.loadAt 9 t37) w fun t38 w =>
  o1 Tryd.prog (Builtin.len_ #[9] 3 #[t38]) w fun t39 w =>
  o1 Tryd.prog (Instr.fieldAt 80 t8 2) w fun t40 w =>
  o1 Tryd.prog (Instr.loadAt 9 t40) w fun t41 w =>
  o1 Tryd.prog (Builtin.len_ #[9] 3 #[t41]) w fun t42 w =>
  o1 Tryd.prog (bin .add 3 (.tmp 39) (.tmp 42) t39 t42) w fun t43 w =>
  mv a2 fun t44 =>
  o1 Tryd.prog (Builtin.len_ #[9] 3 #[t44]) w fun t45 w =>
  o1 Tryd.prog (bin .add 3 (.tmp 43) (.tmp 45) t43 t45) w fun t46 w =>
  o1 Tryd.prog (bin .gtr 3 (.tmp 46) (.const (.int .i64 16777216)) t46 (.int .i64 16777216)) w fun t47 w =>
  mv t47 fun t36 =>
  br t36 (fun _ =>
  o1 Tryd.prog (Instr.loadAt 42 t3) w fun t48 w =>
  o0 Tryd.prog (Instr.storeAt 42 t6 t48) w fun _ w =>
  mv (.int .i64 2) fun t7_3 =>
  rc Tryd.prog 42 t6 w fun r0 =>
  k (.tuple #[r0, t7_3]) w) (fun _ =>
  mv a1 fun t49 =>
  o1 Tryd.prog (Instr.fieldAt 80 t8 0) w fun t50 w =>
  o0 Tryd.prog (Instr.storeAt 9 t50 t49) w fun _ w =>
  o1 Tryd.prog (Instr.fieldAt 80 t8 2) w fun t51 w =>
  o1 Tryd.prog (Instr.loadAt 9 t51) w fun t52 w =>
  mv a2 fun t53 =>
  o1 Tryd.prog (bin .add 9 (.tmp 52) (.tmp 53) t52 t53) w fun t54 w =>
  o1 Tryd.prog (Instr.fieldAt 80 t8 2) w fun t55 w =>
  o0 Tryd.prog (Instr.storeAt 9 t55 t54) w fun _ w =>
  o1 Tryd.prog (Instr.loadAt 42 t3) w fun t57 w =>
  o1 Tryd.prog (Instr.loadAt 80 t8) w fun t58 w =>
  C Tryd.prog N.isthmusref04_set #[t57, t58] w fun t59 w =>
  C Tryd.prog N.isthmusref04_step #[t59] w fun t60 w =>
  mv t60 fun t56 =>
  o1 Tryd.prog (Instr.extract t56 0) w fun t61 w =>
  o1 Tryd.prog (Instr.extract t56 1) w fun t62 w =>
  o0 Tryd.prog (Instr.storeAt 42 t3 t61) w fun _ w =>
  mv t62 fun t10 =>
  mv t10 fun t63 =>
  br t63 (fun _ =>
  o1 Tryd.prog (Instr.loadAt 42 t3) w fun t64 w =>
  o0 Tryd.prog (Instr.storeAt 42 t6 t64) w fun _ w =>
  mv (.int .i64 13) fun t7_4 =>
  rc Tryd.prog 42 t6 w fun r0 =>
  k (.tuple #[r0, t7_4]) w) (fun _ =>
  o1 Tryd.prog (Instr.loadAt 42 t3) w fun t65 w =>
  o0 Tryd.prog (Instr.storeAt 42 t6 t65) w fun _ w =>
  mv (.int .i64 0) fun t7_5 =>
  rc Tryd.prog 42 t6 w fun r0 =>
  k (.tuple #[r0, t7_5]) w)))
def F.isthmusref04_Append_s (k : Value → World → Prop) (a1 a2 t3 t6 t8 : Value) (w : World) : Prop :=
  o1 Tryd.prog (Instr.fieldAt 80 t8 1) w fun t37 w =>
  o1 Tryd.prog (Instr.loadAt 9 t37) w fun t38 w =>
  o1 Tryd.prog (Builtin.len_ #[9] 3 #[t38]) w fun t39 w =>
  o1 Tryd.prog (Instr.fieldAt 80 t8 2) w fun t40 w =>
  o1 Tryd.prog (Instr.loadAt 9 t40) w fun t41 w =>
  o1 Tryd.prog (Builtin.len_ #[9] 3 #[t41]) w fun t42 w =>
  o1 Tryd.prog (bin .add 3 (.tmp 39) (.tmp 42) t39 t42) w fun t43 w =>
  mv a2 fun t44 =>
  o1 Tryd.prog (Builtin.len_ #[9] 3 #[t44]) w fun t45 w =>
  o1 Tryd.prog (bin .add 3 (.tmp 43) (.tmp 45) t43 t45) w fun t46 w =>
  o1 Tryd.prog (bin .gtr 3 (.tmp 46) (.const (.int .i64 16777216)) t46 (.int .i64 16777216)) w fun t47 w =>
  mv t47 fun t36 =>
  br t36 (fun _ =>
  o1 Tryd.prog (Instr.loadAt 42 t3) w fun t48 w =>
  o0 Tryd.prog (Instr.storeAt 42 t6 t48) w fun _ w =>
  mv (.int .i64 2) fun t7_3 =>
  rc Tryd.prog 42 t6 w fun r0 =>
  k (.tuple #[r0, t7_3]) w) (fun _ =>
  mv a1 fun t49 =>
  o1 Tryd.prog (Instr.fieldAt 80 t8 0) w fun t50 w =>
  o0 Tryd.prog (Instr.storeAt 9 t50 t49) w fun _ w =>
  o1 Tryd.prog (Instr.fieldAt 80 t8 2) w fun t51 w =>
  o1 Tryd.prog (Instr.loadAt 9 t51) w fun t52 w =>
  mv a2 fun t53 =>
  o1 Tryd.prog (bin .add 9 (.tmp 52) (.tmp 53) t52 t53) w fun t54 w =>
  o1 Tryd.prog (Instr.fieldAt 80 t8 2) w fun t55 w =>
  o0 Tryd.prog (Instr.storeAt 9 t55 t54) w fun _ w =>
  o1 Tryd.prog (Instr.loadAt 42 t3) w fun t57 w =>
  o1 Tryd.prog (Instr.loadAt 80 t8) w fun t58 w =>
  C Tryd.prog N.isthmusref04_set #[t57, t58] w fun t59 w =>
  C Tryd.prog N.isthmusref04_step #[t59] w fun t60 w =>
  mv t60 fun t56 =>
  o1 Tryd.prog (Instr.extract t56 0) w fun t61 w =>
  o1 Tryd.prog (Instr.extract t56 1) w fun t62 w =>
  o0 Tryd.prog (Instr.storeAt 42 t3 t61) w fun _ w =>
  mv t62 fun t10 =>
  mv t10 fun t63 =>
  br t63 (fun _ =>
  o1 Tryd.prog (Instr.loadAt 42 t3) w fun t64 w =>
  o0 Tryd.prog (Instr.storeAt 42 t6 t64) w fun _ w =>
  mv (.int .i64 13) fun t7_4 =>
  rc Tryd.prog 42 t6 w fun r0 =>
  k (.tuple #[r0, t7_4]) w) (fun _ =>
  o1 Tryd.prog (Instr.loadAt 42 t3) w fun t65 w =>
  o0 Tryd.prog (Instr.storeAt 42 t6 t65) w fun _ w =>
  mv (.int .i64 0) fun t7_5 =>
  rc Tryd.prog 42 t6 w fun r0 =>
  k (.tuple #[r0, t7_5]) w))
/-- files as they may be -/
def okR (r : RFS) : Prop := r.l.length ≤ 64 ∧ ∀ y ∈ r.l, y.name.length ≤ 64 ∧ y.safe.length + y.loose.length ≤ 16777216
theorem atR_mem {n : Bytes} : ∀ {l}, isR n l = true → atR n l ∈ l
  | [], h => by cases h
  | y :: l, h => by
    unfold isR at h; unfold atR
    split
    · rename_i c; rw [if_pos c] at h; exact List.mem_cons_of_mem _ (atR_mem h)
    · simp
theorem getR_len (h : okR r) (n : Bytes) : (getR r n).1.safe.length + (getR r n).1.loose.length ≤ 16777216 := by
  unfold getR
  split
  · simp
  · split
    · simp
    · split
      · rename_i h1; exact (h.2 _ (atR_mem h1)).2
      · simp
theorem Rel.okR {z : FsD} {r : RFS} (h : Rel z r) : okR r := by
  refine ⟨by rw [h.len]; exact h.ok.n, fun y hy => ?_⟩
  have h1 := h.lk y.name
  rw [lookR_of_mem h.srt hy] at h1
  cases hq : lookM y.name z.m with
  | none => rw [hq] at h1; cases h1
  | some x =>
    rw [hq] at h1
    have h2 : y = mkR y.name x := Option.some.inj h1
    have h3 := h.ok.m _ (lookM_mem hq)
    refine ⟨h3.1, ?_⟩
    rw [h2]
    show (x.1.take x.2.toNat).length + (x.1.drop x.2.toNat).length ≤ _
    rw [← List.length_append, List.take_append_drop]
    exact h3.2.2.2
theorem rfs_fact {A c} {q : RFS} (hs : Isk.Sep b w L) (hm : Ins L (listF rfF 3 (.slice A q.l.length c) q.l).it) : Isk.Sep b w ((rfsF (rfsV q (.slice A q.l.length c)) q).it :: L) := hs.fact (f := rfsF (rfsV q (.slice A q.l.length c)) q) ⟨_, rfl, hs.get hm⟩
/-- the file system that came in is told back -/
theorem rfs_out {A c} {M : List It} {q Q : RFS} {e : Value} {E : Int} (hM : Sbl L M) (hs : Isk.Sep b w (blkI g3 T.isthmusref04_FS (rfsV q (.slice A q.l.length c)) :: resI Tryd.prog g4 T.isthmusref04_FS :: (listF rfF 3 (.slice A q.l.length c) q.l).it :: M)) (hq : Q = q) (he : e = .int .i64 E) :
    o1 Tryd.prog (Instr.loadAt T.isthmusref04_FS (.pointer (some ⟨g3, 0, none⟩))) w fun t w => o0 Tryd.prog (Instr.storeAt T.isthmusref04_FS (.pointer (some ⟨g4, 0, none⟩)) t) w fun _ w => mv e fun e' =>
      rc Tryd.prog T.isthmusref04_FS (.pointer (some ⟨g4, 0, none⟩)) w fun r0 => ∃ ds, (Value.tuple #[r0, e']) = .tuple #[.agg ds.toArray, .int .i64 E] ∧ Isk.Sep b w ((rfsF ds Q).it :: L) := by
  subst hq
  refine sp_loadall hs .hd (by kernel_rfl) rfl ?_
  refine sp_setr (ds := rfsV Q (.slice A Q.l.length c)) hs (.tl .hd) (by kernel_rfl) rfl (rfsV_one Q) fun w hs => mv.mk (sp_rc hs .hd (by kernel_rfl) rfl ?_)
  exact ⟨_, by rw [he], (rfs_fact hs (.tl (.tl .hd))).sbl (.cons .hd (.drop (.drop (.drop hM))))⟩
def appR (r : RFS) (n bts : Bytes) (x : RFile) (e : Int) : RFS × Int :=
  if e ≠ 0 ∧ e ≠ 8 then (r, e) else if 16777216 < x.safe.length + x.loose.length + bts.length then (r, 2)
  else ((stepR (setF r ⟨n, x.safe, x.loose ++ bts⟩)).1, if (stepR (setF r ⟨n, x.safe, x.loose ++ bts⟩)).2 = true then 13 else 0)
def apsR (r : RFS) (n bts : Bytes) (x : RFile) : RFS × Int :=
  if 16777216 < x.safe.length + x.loose.length + bts.length then (r, 2)
  else ((stepR (setF r ⟨n, x.safe, x.loose ++ bts⟩)).1, if (stepR (setF r ⟨n, x.safe, x.loose ++ bts⟩)).2 = true then 13 else 0)
theorem append_s {A c} {g6 g8 : Nat} {x : RFile} (hs : Isk.Sep b w (blkI g3 T.isthmusref04_FS (rfsV r (.slice A r.l.length c)) :: resI Tryd.prog g6 T.isthmusref04_FS :: (listF rfF 3 (.slice A r.l.length c) r.l).it :: blkI g8 T.isthmusref04_File (rfV x) :: L)) (hl : r.l.length ≤ 64)
    (hxl : x.safe.length + x.loose.length ≤ 16777216) (hb : bts.length ≤ 1099511627776) :
    F.isthmusref04_Append_s (fun v w' => ∃ ds, v = .tuple #[.agg ds.toArray, .int .i64 (apsR r n bts x).2] ∧ Isk.Sep b w' ((rfsF ds (apsR r n bts x).1).it :: L)) (str n) (str bts) (.pointer (some ⟨g3, 0, none⟩)) (.pointer (some ⟨g6, 0, none⟩)) (.pointer (some ⟨g8, 0, none⟩)) w := by
  unfold F.isthmusref04_Append_s
  repeat (first
   | ((with_reducible apply tn_add); (· omega))
   | ((with_reducible apply tn_sub); (· omega))
   | ((with_reducible apply tn_mul); (· omega))
   | ((with_reducible apply sn_add); (· omega))
   | ((with_reducible apply sn_sub); (· omega))
   | ((with_reducible apply sn_mul); (· omega))
   | (with_reducible refine rfile.a0 ?_)
   | ((with_reducible apply rfile.r0 hs); (· (with_reducible (repeat (first | exact .blk | exact .rng | apply Rng.tl)))))
   | (with_reducible refine rfile.c0 ?_)
   | ((with_reducible apply rfile.e0); (· first | exact hS | exact hid); (· (with_reducible (repeat (first | exact .blk | exact .rng | apply Rng.tl)))))
   | (with_reducible refine rfile.a1 ?_)
   | ((with_reducible apply rfile.r1 hs); (· (with_reducible (repeat (first | exact .blk | exact .rng | apply Rng.tl)))))
   | (with_reducible refine rfile.c1 ?_)
   | ((with_reducible apply rfile.e1); (· first | exact hS | exact hid); (· (with_reducible (repeat (first | exact .blk | exact .rng | apply Rng.tl)))))
   | (with_reducible refine rfile.a2 ?_)
   | ((with_reducible apply rfile.r2 hs); (· (with_reducible (repeat (first | exact .blk | exact .rng | apply Rng.tl)))))
   | (with_reducible refine rfile.c2 ?_)
   | ((with_reducible apply rfile.e2); (· first | exact hS | exact hid); (· (with_reducible (repeat (first | exact .blk | exact .rng | apply Rng.tl)))))
   | (with_reducible (first | refine st_lens ?_ | refine st_eqls ?_ | refine st_nels ?_ | refine tk_eqls ?_ | refine tk_nels ?_ | refine mv.mk ?_ | refine nk_p ?_ | refine gdT_i ?_ | refine gdT_ft ?_ | refine gdT_tf ?_ | refine gdT_u ?_ | refine gd_u ?_ | refine gd_ft ?_ | refine gd_tf ?_ | refine gd_i ?_ | refine pk_t ?_ | refine pk_f ?_ | refine br_t ?_ | refine br_f ?_ | refine sp_boxa hs fun g w hs => ?_))
   | (with_reducible ((first | apply st_bin | apply st_ext | apply st_len | apply st_un | apply st_conv | apply st_mki | apply st_fld | apply st_cap | apply st_max | apply st_min | apply st_ixv | apply st_mkf); intro k' hk; simp [go_sem, thenR_ok, bin]; refine hk _ _ ?_; clear hk k'))
   | ((with_reducible (first | apply tk_bin | apply tk_ext | apply tk_len | apply tk_un)); (· intro w; simp [go_sem, bin]; rfl))
   | ((with_reducible apply sp_newr hs); (· kernel_rfl); intro g w hs))
  by_cases c1 : 16777216 < x.safe.length + x.loose.length + bts.length
  · rw [show decide ((16777216 : Int) < (x.safe.length : Int) + (x.loose.length : Int) + (bts.length : Int)) = true by simp; omega]
    repeat (first
     | (with_reducible (first | refine st_lens ?_ | refine st_eqls ?_ | refine st_nels ?_ | refine tk_eqls ?_ | refine tk_nels ?_ | refine mv.mk ?_ | refine nk_p ?_ | refine gdT_i ?_ | refine gdT_ft ?_ | refine gdT_tf ?_ | refine gdT_u ?_ | refine gd_u ?_ | refine gd_ft ?_ | refine gd_tf ?_ | refine gd_i ?_ | refine pk_t ?_ | refine pk_f ?_ | refine br_t ?_ | refine br_f ?_ | refine sp_boxa hs fun g w hs => ?_))
     | (with_reducible ((first | apply st_bin | apply st_ext | apply st_len | apply st_un | apply st_conv | apply st_mki | apply st_fld | apply st_cap | apply st_max | apply st_min | apply st_ixv | apply st_mkf); intro k' hk; simp [go_sem, thenR_ok, bin]; refine hk _ _ ?_; clear hk k'))
     | ((with_reducible (first | apply tk_bin | apply tk_ext | apply tk_len | apply tk_un)); (· intro w; simp [go_sem, bin]; rfl))
     | ((with_reducible apply sp_newr hs); (· kernel_rfl); intro g w hs))
    exact rfs_out (.drop .all) hs (by rw [apsR, if_pos c1]) (by rw [apsR, if_pos c1])
  rw [show decide ((16777216 : Int) < (x.safe.length : Int) + (x.loose.length : Int) + (bts.length : Int)) = false by simp; omega]
  have eA : apsR r n bts x = ((stepR (setF r ⟨n, x.safe, x.loose ++ bts⟩)).1, if (stepR (setF r ⟨n, x.safe, x.loose ++ bts⟩)).2 = true then 13 else 0) := by rw [apsR, if_neg c1]
  rw [eA]
  repeat (first
   | (with_reducible refine rfile.a0 ?_)
   | ((with_reducible apply rfile.r0 hs); (· (with_reducible (repeat (first | exact .blk | exact .rng | apply Rng.tl)))))
   | (with_reducible refine rfile.c0 ?_)
   | ((with_reducible apply rfile.e0); (· first | exact hS | exact hid); (· (with_reducible (repeat (first | exact .blk | exact .rng | apply Rng.tl)))))
   | (with_reducible refine rfile.a1 ?_)
   | ((with_reducible apply rfile.r1 hs); (· (with_reducible (repeat (first | exact .blk | exact .rng | apply Rng.tl)))))
   | (with_reducible refine rfile.c1 ?_)
   | ((with_reducible apply rfile.e1); (· first | exact hS | exact hid); (· (with_reducible (repeat (first | exact .blk | exact .rng | apply Rng.tl)))))
   | (with_reducible refine rfile.a2 ?_)
   | ((with_reducible apply rfile.r2 hs); (· (with_reducible (repeat (first | exact .blk | exact .rng | apply Rng.tl)))))
   | (with_reducible refine rfile.c2 ?_)
   | ((with_reducible apply rfile.e2); (· first | exact hS | exact hid); (· (with_reducible (repeat (first | exact .blk | exact .rng | apply Rng.tl)))))
   | (with_reducible (first | refine st_lens ?_ | refine st_eqls ?_ | refine st_nels ?_ | refine tk_eqls ?_ | refine tk_nels ?_ | refine mv.mk ?_ | refine nk_p ?_ | refine gdT_i ?_ | refine gdT_ft ?_ | refine gdT_tf ?_ | refine gdT_u ?_ | refine gd_u ?_ | refine gd_ft ?_ | refine gd_tf ?_ | refine gd_i ?_ | refine pk_t ?_ | refine pk_f ?_ | refine br_t ?_ | refine br_f ?_ | refine sp_boxa hs fun g w hs => ?_))
   | (with_reducible ((first | apply st_bin | apply st_ext | apply st_len | apply st_un | apply st_conv | apply st_mki | apply st_fld | apply st_cap | apply st_max | apply st_min | apply st_ixv | apply st_mkf); intro k' hk; simp [go_sem, thenR_ok, bin]; refine hk _ _ ?_; clear hk k'))
   | ((with_reducible (first | apply tk_bin | apply tk_ext | apply tk_len | apply tk_un)); (· intro w; simp [go_sem, bin]; rfl))
   | ((with_reducible apply sp_newr hs); (· kernel_rfl); intro g w hs))
  refine sx_st (p := 0) hs (.tl (.tl (.tl .hd))) (by kernel_rfl) ⟨rfl, rfl⟩ (by simp [rfileC]) fun w hs => ?_
  replace hs : Isk.Sep b w (blkI g8 T.isthmusref04_File (rfileC (str n) (str x.safe) (str x.loose)) :: blkI g3 T.isthmusref04_FS (rfsV r (.slice A r.l.length c)) :: resI Tryd.prog g6 T.isthmusref04_FS :: (listF rfF 3 (.slice A r.l.length c) r.l).it :: L) := hs
  repeat (first
   | (with_reducible refine rfile.a0 ?_)
   | ((with_reducible apply rfile.r0 hs); (· (with_reducible (repeat (first | exact .blk | exact .rng | apply Rng.tl)))))
   | (with_reducible refine rfile.c0 ?_)
   | ((with_reducible apply rfile.e0); (· first | exact hS | exact hid); (· (with_reducible (repeat (first | exact .blk | exact .rng | apply Rng.tl)))))
   | (with_reducible refine rfile.a1 ?_)
   | ((with_reducible apply rfile.r1 hs); (· (with_reducible (repeat (first | exact .blk | exact .rng | apply Rng.tl)))))
   | (with_reducible refine rfile.c1 ?_)
   | ((with_reducible apply rfile.e1); (· first | exact hS | exact hid); (· (with_reducible (repeat (first | exact .blk | exact .rng | apply Rng.tl)))))
   | (with_reducible refine rfile.a2 ?_)
   | ((with_reducible apply rfile.r2 hs); (· (with_reducible (repeat (first | exact .blk | exact .rng | apply Rng.tl)))))
   | (with_reducible refine rfile.c2 ?_)
   | ((with_reducible apply rfile.e2); (· first | exact hS | exact hid); (· (with_reducible (repeat (first | exact .blk | exact .rng | apply Rng.tl)))))
   | (with_reducible (first | refine st_lens ?_ | refine st_eqls ?_ | refine st_nels ?_ | refine tk_eqls ?_ | refine tk_nels ?_ | refine mv.mk ?_ | refine nk_p ?_ | refine gdT_i ?_ | refine gdT_ft ?_ | refine gdT_tf ?_ | refine gdT_u ?_ | refine gd_u ?_ | refine gd_ft ?_ | refine gd_tf ?_ | refine gd_i ?_ | refine pk_t ?_ | refine pk_f ?_ | refine br_t ?_ | refine br_f ?_ | refine sp_boxa hs fun g w hs => ?_))
   | (with_reducible ((first | apply st_bin | apply st_ext | apply st_len | apply st_un | apply st_conv | apply st_mki | apply st_fld | apply st_cap | apply st_max | apply st_min | apply st_ixv | apply st_mkf); intro k' hk; simp [go_sem, thenR_ok, bin]; refine hk _ _ ?_; clear hk k'))
   | ((with_reducible (first | apply tk_bin | apply tk_ext | apply tk_len | apply tk_un)); (· intro w; simp [go_sem, bin]; rfl))
   | ((with_reducible apply sp_newr hs); (· kernel_rfl); intro g w hs))
  refine st_of (cat_run (by omega) w) ?_
  repeat (first
   | (with_reducible refine rfile.a0 ?_)
   | ((with_reducible apply rfile.r0 hs); (· (with_reducible (repeat (first | exact .blk | exact .rng | apply Rng.tl)))))
   | (with_reducible refine rfile.c0 ?_)
   | ((with_reducible apply rfile.e0); (· first | exact hS | exact hid); (· (with_reducible (repeat (first | exact .blk | exact .rng | apply Rng.tl)))))
   | (with_reducible refine rfile.a1 ?_)
   | ((with_reducible apply rfile.r1 hs); (· (with_reducible (repeat (first | exact .blk | exact .rng | apply Rng.tl)))))
   | (with_reducible refine rfile.c1 ?_)
   | ((with_reducible apply rfile.e1); (· first | exact hS | exact hid); (· (with_reducible (repeat (first | exact .blk | exact .rng | apply Rng.tl)))))
   | (with_reducible refine rfile.a2 ?_)
   | ((with_reducible apply rfile.r2 hs); (· (with_reducible (repeat (first | exact .blk | exact .rng | apply Rng.tl)))))
   | (with_reducible refine rfile.c2 ?_)
   | ((with_reducible apply rfile.e2); (· first | exact hS | exact hid); (· (with_reducible (repeat (first | exact .blk | exact .rng | apply Rng.tl)))))
   | (with_reducible (first | refine st_lens ?_ | refine st_eqls ?_ | refine st_nels ?_ | refine tk_eqls ?_ | refine tk_nels ?_ | refine mv.mk ?_ | refine nk_p ?_ | refine gdT_i ?_ | refine gdT_ft ?_ | refine gdT_tf ?_ | refine gdT_u ?_ | refine gd_u ?_ | refine gd_ft ?_ | refine gd_tf ?_ | refine gd_i ?_ | refine pk_t ?_ | refine pk_f ?_ | refine br_t ?_ | refine br_f ?_ | refine sp_boxa hs fun g w hs => ?_))
   | (with_reducible ((first | apply st_bin | apply st_ext | apply st_len | apply st_un | apply st_conv | apply st_mki | apply st_fld | apply st_cap | apply st_max | apply st_min | apply st_ixv | apply st_mkf); intro k' hk; simp [go_sem, thenR_ok, bin]; refine hk _ _ ?_; clear hk k'))
   | ((with_reducible (first | apply tk_bin | apply tk_ext | apply tk_len | apply tk_un)); (· intro w; simp [go_sem, bin]; rfl))
   | ((with_reducible apply sp_newr hs); (· kernel_rfl); intro g w hs))
  refine sx_st (p := 2) hs .hd (by kernel_rfl) ⟨rfl, rfl⟩ (by simp [rfileC]) fun w hs => ?_
  replace hs : Isk.Sep b w (blkI g8 T.isthmusref04_File (rfV ⟨n, x.safe, x.loose ++ bts⟩) :: blkI g3 T.isthmusref04_FS (rfsV r (.slice A r.l.length c)) :: resI Tryd.prog g6 T.isthmusref04_FS :: (listF rfF 3 (.slice A r.l.length c) r.l).it :: L) := hs
  generalize (⟨n, x.safe, x.loose ++ bts⟩ : RFile) = y at *
  refine sp_loadall hs (.tl .hd) (by kernel_rfl) rfl ?_
  refine sp_loadall hs .hd (by kernel_rfl) rfl ?_
  replace hs := rfs_fact hs (.tl (.tl (.tl .hd)))
  refine cl (isthmusref04_set (y := y) hs .hd (by omega)) ?_
  rintro _ w ⟨ds, rfl, hs⟩
  refine cl (isthmusref04_step hs .hd) ?_
  rintro _ w ⟨ds2, rfl, hs⟩
  obtain ⟨A2, c2, rfl, hs⟩ := rfs_open hs .hd
  repeat (first
   | (with_reducible (first | refine st_lens ?_ | refine st_eqls ?_ | refine st_nels ?_ | refine tk_eqls ?_ | refine tk_nels ?_ | refine mv.mk ?_ | refine nk_p ?_ | refine gdT_i ?_ | refine gdT_ft ?_ | refine gdT_tf ?_ | refine gdT_u ?_ | refine gd_u ?_ | refine gd_ft ?_ | refine gd_tf ?_ | refine gd_i ?_ | refine pk_t ?_ | refine pk_f ?_ | refine br_t ?_ | refine br_f ?_ | refine sp_boxa hs fun g w hs => ?_))
   | (with_reducible ((first | apply st_bin | apply st_ext | apply st_len | apply st_un | apply st_conv | apply st_mki | apply st_fld | apply st_cap | apply st_max | apply st_min | apply st_ixv | apply st_mkf); intro k' hk; simp [go_sem, thenR_ok, bin]; refine hk _ _ ?_; clear hk k'))
   | ((with_reducible (first | apply tk_bin | apply tk_ext | apply tk_len | apply tk_un)); (· intro w; simp [go_sem, bin]; rfl))
   | ((with_reducible apply sp_newr hs); (· kernel_rfl); intro g w hs))
  refine sp_whole hs (.tl (.tl (.tl (.tl (.tl .hd))))) (by kernel_rfl) rfl rfl (rfsV_one _) fun w hs => ?_
  replace hs := hs.sbl (L' := blkI g3 T.isthmusref04_FS (rfsV (stepR (setF r y)).1 (.slice A2 (stepR (setF r y)).1.l.length c2)) :: resI Tryd.prog g6 T.isthmusref04_FS :: (listF rfF 3 (.slice A2 (stepR (setF r y)).1.l.length c2) (stepR (setF r y)).1.l).it :: L) (.cons .hd (.cons (.tl (.tl (.tl (.tl (.tl .hd))))) (.cons .hd (.drop (.drop (.drop (.drop (.drop .all))))))))
  generalize stepR (setF r y) = G at *
  obtain ⟨q, d⟩ := G
  cases d with
  | true =>
    repeat (first
     | (with_reducible (first | refine st_lens ?_ | refine st_eqls ?_ | refine st_nels ?_ | refine tk_eqls ?_ | refine tk_nels ?_ | refine mv.mk ?_ | refine nk_p ?_ | refine gdT_i ?_ | refine gdT_ft ?_ | refine gdT_tf ?_ | refine gdT_u ?_ | refine gd_u ?_ | refine gd_ft ?_ | refine gd_tf ?_ | refine gd_i ?_ | refine pk_t ?_ | refine pk_f ?_ | refine br_t ?_ | refine br_f ?_ | refine sp_boxa hs fun g w hs => ?_))
     | (with_reducible ((first | apply st_bin | apply st_ext | apply st_len | apply st_un | apply st_conv | apply st_mki | apply st_fld | apply st_cap | apply st_max | apply st_min | apply st_ixv | apply st_mkf); intro k' hk; simp [go_sem, thenR_ok, bin]; refine hk _ _ ?_; clear hk k'))
     | ((with_reducible (first | apply tk_bin | apply tk_ext | apply tk_len | apply tk_un)); (· intro w; simp [go_sem, bin]; rfl))
     | ((with_reducible apply sp_newr hs); (· kernel_rfl); intro g w hs))
    exact rfs_out .all hs rfl rfl
  | false =>
    repeat (first
     | (with_reducible (first | refine st_lens ?_ | refine st_eqls ?_ | refine st_nels ?_ | refine tk_eqls ?_ | refine tk_nels ?_ | refine mv.mk ?_ | refine nk_p ?_ | refine gdT_i ?_ | refine gdT_ft ?_ | refine gdT_tf ?_ | refine gdT_u ?_ | refine gd_u ?_ | refine gd_ft ?_ | refine gd_tf ?_ | refine gd_i ?_ | refine pk_t ?_ | refine pk_f ?_ | refine br_t ?_ | refine br_f ?_ | refine sp_boxa hs fun g w hs => ?_))
     | (with_reducible ((first | apply st_bin | apply st_ext | apply st_len | apply st_un | apply st_conv | apply st_mki | apply st_fld | apply st_cap | apply st_max | apply st_min | apply st_ixv | apply st_mkf); intro k' hk; simp [go_sem, thenR_ok, bin]; refine hk _ _ ?_; clear hk k'))
     | ((with_reducible (first | apply tk_bin | apply tk_ext | apply tk_len | apply tk_un)); (· intro w; simp [go_sem, bin]; rfl))
     | ((with_reducible apply sp_newr hs); (· kernel_rfl); intro g w hs))
    exact rfs_out .all hs rfl rfl
theorem append_r {A c} {g6 g8 : Nat} {x : RFile} {e : Int} (hs : Isk.Sep b w (blkI g3 T.isthmusref04_FS (rfsV r (.slice A r.l.length c)) :: resI Tryd.prog g6 T.isthmusref04_FS :: (listF rfF 3 (.slice A r.l.length c) r.l).it :: blkI g8 T.isthmusref04_File (rfV x) :: L)) (hl : r.l.length ≤ 64)
    (hxl : x.safe.length + x.loose.length ≤ 16777216) (hb : bts.length ≤ 1099511627776) :
    F.isthmusref04_Append_r (fun v w' => ∃ ds, v = .tuple #[.agg ds.toArray, .int .i64 (appR r n bts x e).2] ∧ Isk.Sep b w' ((rfsF ds (appR r n bts x e).1).it :: L)) (str n) (str bts) (.pointer (some ⟨g3, 0, none⟩)) (.pointer (some ⟨g6, 0, none⟩)) (.pointer (some ⟨g8, 0, none⟩)) (.int .i64 e) w := by
  unfold F.isthmusref04_Append_r
  by_cases c1 : e ≠ 0 ∧ e ≠ 8
  · have eA : appR r n bts x e = (r, e) := by rw [appR, if_pos c1]
    rw [eA]
    have h1 : (e != 0) = true := by simpa using c1.1
    have h2 : (e != 8) = true := by simpa using c1.2
    repeat (first
     | (with_reducible (first | refine st_lens ?_ | refine st_eqls ?_ | refine st_nels ?_ | refine tk_eqls ?_ | refine tk_nels ?_ | refine mv.mk ?_ | refine nk_p ?_ | refine gdT_i ?_ | refine gdT_ft ?_ | refine gdT_tf ?_ | refine gdT_u ?_ | refine gd_u ?_ | refine gd_ft ?_ | refine gd_tf ?_ | refine gd_i ?_ | refine pk_t ?_ | refine pk_f ?_ | refine br_t ?_ | refine br_f ?_ | refine sp_boxa hs fun g w hs => ?_))
     | (with_reducible ((first | apply st_bin | apply st_ext | apply st_len | apply st_un | apply st_conv | apply st_mki | apply st_fld | apply st_cap | apply st_max | apply st_min | apply st_ixv | apply st_mkf); intro k' hk; simp [go_sem, thenR_ok, bin]; refine hk _ _ ?_; clear hk k'))
     | ((with_reducible (first | apply tk_bin | apply tk_ext | apply tk_len | apply tk_un)); (· intro w; simp [go_sem, bin]; rfl))
     | ((with_reducible apply sp_newr hs); (· kernel_rfl); intro g w hs))
    rw [h1]
    repeat (first
     | (with_reducible (first | refine st_lens ?_ | refine st_eqls ?_ | refine st_nels ?_ | refine tk_eqls ?_ | refine tk_nels ?_ | refine mv.mk ?_ | refine nk_p ?_ | refine gdT_i ?_ | refine gdT_ft ?_ | refine gdT_tf ?_ | refine gdT_u ?_ | refine gd_u ?_ | refine gd_ft ?_ | refine gd_tf ?_ | refine gd_i ?_ | refine pk_t ?_ | refine pk_f ?_ | refine br_t ?_ | refine br_f ?_ | refine sp_boxa hs fun g w hs => ?_))
     | (with_reducible ((first | apply st_bin | apply st_ext | apply st_len | apply st_un | apply st_conv | apply st_mki | apply st_fld | apply st_cap | apply st_max | apply st_min | apply st_ixv | apply st_mkf); intro k' hk; simp [go_sem, thenR_ok, bin]; refine hk _ _ ?_; clear hk k'))
     | ((with_reducible (first | apply tk_bin | apply tk_ext | apply tk_len | apply tk_un)); (· intro w; simp [go_sem, bin]; rfl))
     | ((with_reducible apply sp_newr hs); (· kernel_rfl); intro g w hs))
    rw [h2]
    repeat (first
     | (with_reducible (first | refine st_lens ?_ | refine st_eqls ?_ | refine st_nels ?_ | refine tk_eqls ?_ | refine tk_nels ?_ | refine mv.mk ?_ | refine nk_p ?_ | refine gdT_i ?_ | refine gdT_ft ?_ | refine gdT_tf ?_ | refine gdT_u ?_ | refine gd_u ?_ | refine gd_ft ?_ | refine gd_tf ?_ | refine gd_i ?_ | refine pk_t ?_ | refine pk_f ?_ | refine br_t ?_ | refine br_f ?_ | refine sp_boxa hs fun g w hs => ?_))
     | (with_reducible ((first | apply st_bin | apply st_ext | apply st_len | apply st_un | apply st_conv | apply st_mki | apply st_fld | apply st_cap | apply st_max | apply st_min | apply st_ixv | apply st_mkf); intro k' hk; simp [go_sem, thenR_ok, bin]; refine hk _ _ ?_; clear hk k'))
     | ((with_reducible (first | apply tk_bin | apply tk_ext | apply tk_len | apply tk_un)); (· intro w; simp [go_sem, bin]; rfl))
     | ((with_reducible apply sp_newr hs); (· kernel_rfl); intro g w hs))
    refine sp_loadall hs .hd (by kernel_rfl) rfl ?_
    repeat with_reducible refine mv.mk ?_
    refine sp_setr (ds := rfsV r (.slice A r.l.length c)) hs (.tl .hd) (by kernel_rfl) rfl (rfsV_one r) fun w hs => mv.mk (sp_rc hs .hd (by kernel_rfl) rfl ?_)
    exact ⟨_, rfl, (rfs_fact hs (.tl (.tl .hd))).sbl (.cons .hd (.drop (.drop (.drop (.drop .all)))))⟩
  have eA : appR r n bts x e = apsR r n bts x := by rw [appR, if_neg c1]; rfl
  rw [eA]
  by_cases e0 : e = 0
  · subst e0
    repeat (first
     | (with_reducible (first | refine st_lens ?_ | refine st_eqls ?_ | refine st_nels ?_ | refine tk_eqls ?_ | refine tk_nels ?_ | refine mv.mk ?_ | refine nk_p ?_ | refine gdT_i ?_ | refine gdT_ft ?_ | refine gdT_tf ?_ | refine gdT_u ?_ | refine gd_u ?_ | refine gd_ft ?_ | refine gd_tf ?_ | refine gd_i ?_ | refine pk_t ?_ | refine pk_f ?_ | refine br_t ?_ | refine br_f ?_ | refine sp_boxa hs fun g w hs => ?_))
     | (with_reducible ((first | apply st_bin | apply st_ext | apply st_len | apply st_un | apply st_conv | apply st_mki | apply st_fld | apply st_cap | apply st_max | apply st_min | apply st_ixv | apply st_mkf); intro k' hk; simp [go_sem, thenR_ok, bin]; refine hk _ _ ?_; clear hk k'))
     | ((with_reducible (first | apply tk_bin | apply tk_ext | apply tk_len | apply tk_un)); (· intro w; simp [go_sem, bin]; rfl))
     | ((with_reducible apply sp_newr hs); (· kernel_rfl); intro g w hs))
    exact append_s hs hl hxl hb
  · have h8 : e = 8 := by
      rcases Classical.em (e = 8) with h | h
      · exact h
      · exact absurd ⟨e0, h⟩ c1
    subst h8
    repeat (first
     | (with_reducible (first | refine st_lens ?_ | refine st_eqls ?_ | refine st_nels ?_ | refine tk_eqls ?_ | refine tk_nels ?_ | refine mv.mk ?_ | refine nk_p ?_ | refine gdT_i ?_ | refine gdT_ft ?_ | refine gdT_tf ?_ | refine gdT_u ?_ | refine gd_u ?_ | refine gd_ft ?_ | refine gd_tf ?_ | refine gd_i ?_ | refine pk_t ?_ | refine pk_f ?_ | refine br_t ?_ | refine br_f ?_ | refine sp_boxa hs fun g w hs => ?_))
     | (with_reducible ((first | apply st_bin | apply st_ext | apply st_len | apply st_un | apply st_conv | apply st_mki | apply st_fld | apply st_cap | apply st_max | apply st_min | apply st_ixv | apply st_mkf); intro k' hk; simp [go_sem, thenR_ok, bin]; refine hk _ _ ?_; clear hk k'))
     | ((with_reducible (first | apply tk_bin | apply tk_ext | apply tk_len | apply tk_un)); (· intro w; simp [go_sem, bin]; rfl))
     | ((with_reducible apply sp_newr hs); (· kernel_rfl); intro g w hs))
    exact append_s hs hl hxl hb
theorem isthmusref04_Append (hs : Isk.Sep b w L) (hm : Ins L (rfsF cs r).it) (hok : okR r) (hn : n.length ≤ 4611686018427387904) (hb : bts.length ≤ 1099511627776) :
    C Tryd.prog N.isthmusref04_Append #[.agg cs.toArray, str n, str bts] w fun v w' => ∃ ds, v = .tuple #[.agg ds.toArray, .int .i64 (appendR r n bts).2] ∧ Isk.Sep b w' ((rfsF ds (appendR r n bts).1).it :: L) := by
  obtain ⟨A, c, rfl, hs⟩ := rfs_open hs hm
  have hxl := getR_len hok n
  have hl := hok.1
  refine C.isthmusref04_Append ?_
  unfold F.isthmusref04_Append
  refine sp_boxa hs fun g3 w hs => ?_
  refine sp_newr hs (by kernel_rfl) fun g6 w hs => ?_
  repeat with_reducible refine mv.mk ?_
  refine sp_loadall hs (.tl .hd) (by kernel_rfl) rfl ?_
  repeat with_reducible refine mv.mk ?_
  refine cl (isthmusref04_get (n := n) hs (.tl (.tl (.tl hm))) (by omega) hn) ?_
  rintro _ w ⟨rfl, hs⟩
  unfold appendR
  generalize getR r n = G at *
  obtain ⟨x, e⟩ := G
  simp only at hxl
  repeat with_reducible refine mv.mk ?_
  refine st_of (v := .agg (rfV x).toArray) (w' := w) (by simp [go_sem]) ?_
  refine st_of (v := .int .i64 e) (w' := w) (by simp [go_sem]) ?_
  refine sp_newr hs (by kernel_rfl) fun g8 w hs => ?_
  refine sp_setr (ds := rfV x) hs .hd (by kernel_rfl) rfl (rfV_one x) fun w hs => ?_
  replace hs := hs.sbl (L' := blkI g3 T.isthmusref04_FS (rfsV r (.slice A r.l.length c)) :: resI Tryd.prog g6 T.isthmusref04_FS :: (listF rfF 3 (.slice A r.l.length c) r.l).it :: blkI g8 T.isthmusref04_File (rfV x) :: L) (.cons (.tl (.tl .hd)) (.cons (.tl .hd) (.cons (.tl .hd) .all)))
  have hR : ∀ w, ¬ (e = 8 ∧ 64 ≤ r.l.length) → Isk.Sep b w (blkI g3 T.isthmusref04_FS (rfsV r (.slice A r.l.length c)) :: resI Tryd.prog g6 T.isthmusref04_FS :: (listF rfF 3 (.slice A r.l.length c) r.l).it :: blkI g8 T.isthmusref04_File (rfV x) :: L) →
      F.isthmusref04_Append_r (fun v w' => ∃ ds, v = .tuple #[.agg ds.toArray, .int .i64 (if e = 8 ∧ 64 ≤ r.l.length then (r, (10 : Int)) else appR r n bts x e).2] ∧ Isk.Sep b w' ((rfsF ds (if e = 8 ∧ 64 ≤ r.l.length then (r, (10 : Int)) else appR r n bts x e).1).it :: L)) (str n) (str bts) (.pointer (some ⟨g3, 0, none⟩)) (.pointer (some ⟨g6, 0, none⟩)) (.pointer (some ⟨g8, 0, none⟩)) (.int .i64 e) w := fun w hn hs => by
    rw [if_neg hn]
    exact append_r hs hl hxl hb
  show mv _ _
  refine mv.mk ?_
  by_cases e8 : e = 8
  · subst e8
    repeat (first
     | (with_reducible refine rfs.a0 ?_)
     | ((with_reducible apply rfs.r0 hs); (· (with_reducible (repeat (first | exact .blk | exact .rng | apply Rng.tl)))))
     | (with_reducible refine rfs.c0 ?_)
     | ((with_reducible apply rfs.e0); (· first | exact hS | exact hid); (· (with_reducible (repeat (first | exact .blk | exact .rng | apply Rng.tl)))))
     | (with_reducible refine rfs.a1 ?_)
     | ((with_reducible apply rfs.r1 hs); (· (with_reducible (repeat (first | exact .blk | exact .rng | apply Rng.tl)))))
     | (with_reducible refine rfs.c1 ?_)
     | ((with_reducible apply rfs.e1); (· first | exact hS | exact hid); (· (with_reducible (repeat (first | exact .blk | exact .rng | apply Rng.tl)))))
     | (with_reducible refine rfs.a2 ?_)
     | ((with_reducible apply rfs.r2 hs); (· (with_reducible (repeat (first | exact .blk | exact .rng | apply Rng.tl)))))
     | (with_reducible refine rfs.c2 ?_)
     | ((with_reducible apply rfs.e2); (· first | exact hS | exact hid); (· (with_reducible (repeat (first | exact .blk | exact .rng | apply Rng.tl)))))
     | (with_reducible refine rfs.a3 ?_)
     | ((with_reducible apply rfs.r3 hs); (· (with_reducible (repeat (first | exact .blk | exact .rng | apply Rng.tl)))))
     | (with_reducible refine rfs.c3 ?_)
     | ((with_reducible apply rfs.e3); (· first | exact hS | exact hid); (· (with_reducible (repeat (first | exact .blk | exact .rng | apply Rng.tl)))))
     | (with_reducible refine rfs.a4 ?_)
     | ((with_reducible apply rfs.r4 hs); (· (with_reducible (repeat (first | exact .blk | exact .rng | apply Rng.tl)))))
     | (with_reducible refine rfs.c4 ?_)
     | ((with_reducible apply rfs.e4); (· first | exact hS | exact hid); (· (with_reducible (repeat (first | exact .blk | exact .rng | apply Rng.tl)))))
     | (with_reducible (first | refine st_lens ?_ | refine st_eqls ?_ | refine st_nels ?_ | refine tk_eqls ?_ | refine tk_nels ?_ | refine mv.mk ?_ | refine nk_p ?_ | refine gdT_i ?_ | refine gdT_ft ?_ | refine gdT_tf ?_ | refine gdT_u ?_ | refine gd_u ?_ | refine gd_ft ?_ | refine gd_tf ?_ | refine gd_i ?_ | refine pk_t ?_ | refine pk_f ?_ | refine br_t ?_ | refine br_f ?_ | refine sp_boxa hs fun g w hs => ?_))
     | (with_reducible ((first | apply st_bin | apply st_ext | apply st_len | apply st_un | apply st_conv | apply st_mki | apply st_fld | apply st_cap | apply st_max | apply st_min | apply st_ixv | apply st_mkf); intro k' hk; simp [go_sem, thenR_ok, bin]; refine hk _ _ ?_; clear hk k'))
     | ((with_reducible (first | apply tk_bin | apply tk_ext | apply tk_len | apply tk_un)); (· intro w; simp [go_sem, bin]; rfl))
     | ((with_reducible apply sp_newr hs); (· kernel_rfl); intro g w hs))
    by_cases c64 : 64 ≤ r.l.length
    · rw [show decide ((64 : Int) ≤ (r.l.length : Int)) = true by simp; omega]
      repeat (first
       | (with_reducible (first | refine st_lens ?_ | refine st_eqls ?_ | refine st_nels ?_ | refine tk_eqls ?_ | refine tk_nels ?_ | refine mv.mk ?_ | refine nk_p ?_ | refine gdT_i ?_ | refine gdT_ft ?_ | refine gdT_tf ?_ | refine gdT_u ?_ | refine gd_u ?_ | refine gd_ft ?_ | refine gd_tf ?_ | refine gd_i ?_ | refine pk_t ?_ | refine pk_f ?_ | refine br_t ?_ | refine br_f ?_ | refine sp_boxa hs fun g w hs => ?_))
       | (with_reducible ((first | apply st_bin | apply st_ext | apply st_len | apply st_un | apply st_conv | apply st_mki | apply st_fld | apply st_cap | apply st_max | apply st_min | apply st_ixv | apply st_mkf); intro k' hk; simp [go_sem, thenR_ok, bin]; refine hk _ _ ?_; clear hk k'))
       | ((with_reducible (first | apply tk_bin | apply tk_ext | apply tk_len | apply tk_un)); (· intro w; simp [go_sem, bin]; rfl))
       | ((with_reducible apply sp_newr hs); (· kernel_rfl); intro g w hs))
      exact rfs_out (.drop .all) hs (by rw [if_pos ⟨rfl, c64⟩]) (by rw [if_pos ⟨rfl, c64⟩])
    · rw [show decide ((64 : Int) ≤ (r.l.length : Int)) = false by simp; omega]
      refine br_f ?_
      exact hR w (fun h => c64 h.2) hs
  · have h8 : (e == 8) = false := by simpa using e8
    repeat (first
     | (with_reducible (first | refine st_lens ?_ | refine st_eqls ?_ | refine st_nels ?_ | refine tk_eqls ?_ | refine tk_nels ?_ | refine mv.mk ?_ | refine nk_p ?_ | refine gdT_i ?_ | refine gdT_ft ?_ | refine gdT_tf ?_ | refine gdT_u ?_ | refine gd_u ?_ | refine gd_ft ?_ | refine gd_tf ?_ | refine gd_i ?_ | refine pk_t ?_ | refine pk_f ?_ | refine br_t ?_ | refine br_f ?_ | refine sp_boxa hs fun g w hs => ?_))
     | (with_reducible ((first | apply st_bin | apply st_ext | apply st_len | apply st_un | apply st_conv | apply st_mki | apply st_fld | apply st_cap | apply st_max | apply st_min | apply st_ixv | apply st_mkf); intro k' hk; simp [go_sem, thenR_ok, bin]; refine hk _ _ ?_; clear hk k'))
     | ((with_reducible (first | apply tk_bin | apply tk_ext | apply tk_len | apply tk_un)); (· intro w; simp [go_sem, bin]; rfl))
     | ((with_reducible apply sp_newr hs); (· kernel_rfl); intro g w hs))
    rw [h8]
    repeat (refine gd_ft ?_)
    refine pk_f ?_
    refine mv.mk ?_
    refine br_f ?_
    exact hR w (fun h => e8 h.1) hs
end
end Go.Proofs.YtiaiglgfangedaaDoor
