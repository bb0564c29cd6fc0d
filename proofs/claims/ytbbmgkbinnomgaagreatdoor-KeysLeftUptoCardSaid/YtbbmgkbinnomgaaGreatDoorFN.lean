/- files: Append. -/
import Derived.Test.YtbbmgkbinnomgaaGreatDoorFM
set_option linter.unusedVariables false
set_option linter.unusedSimpArgs false
set_option linter.unusedSectionVars false
namespace Go.Proofs.YtbbmgkbinnomgaaGreatDoor
open Go Go.Isk Go.RowKit
set_option maxRecDepth 20000
def F.files_FS_Append_r1 (k : Value → World → Prop) (a0 a1 a2 t8 : Value) (w : World) : Prop :=
  mv a2 fun t40 =>
  o1 Tryz.prog (Builtin.len_ #[26] 3 #[t40]) w fun t41 w =>
  o1 Tryz.prog (Instr.fieldAt 114 t8 0) w fun t42 w =>
  o1 Tryz.prog (Instr.loadAt 26 t42) w fun t43 w =>
  o1 Tryz.prog (Builtin.len_ #[26] 3 #[t43]) w fun t44 w =>
  o1 Tryz.prog (bin .sub 3 (.const (.int .i64 16777216)) (.tmp 44) (.int .i64 16777216) t44) w fun t45 w =>
  o1 Tryz.prog (bin .gtr 3 (.tmp 41) (.tmp 45) t41 t45) w fun t46 w =>
  mv t46 fun t39 =>
  br t39 (fun _ =>
  mv a1 fun t47 =>
  C Tryz.prog N.files_fault #[t47, .int .i64 2] w fun t48 w =>
  mv t48 fun t6_3 =>
  k t6_3 w) (fun _ =>
  o1 Tryz.prog (Instr.fieldAt 114 t8 0) w fun t49 w =>
  o1 Tryz.prog (Instr.loadAt 26 t49) w fun t50 w =>
  o1 Tryz.prog (Instr.fieldAt 114 t8 0) w fun t51 w =>
  o1 Tryz.prog (Instr.loadAt 26 t51) w fun t52 w =>
  o1 Tryz.prog (Builtin.len_ #[26] 3 #[t52]) w fun t53 w =>
  o1 Tryz.prog (Instr.fieldAt 114 t8 0) w fun t54 w =>
  o1 Tryz.prog (Instr.loadAt 26 t54) w fun t55 w =>
  o1 Tryz.prog (Builtin.len_ #[26] 3 #[t55]) w fun t56 w =>
  o1 Tryz.prog (Instr.sliceAt 26 t50 none (some t53) (some t56)) w fun t57 w =>
  mv a2 fun t58 =>
  ob Tryz.prog (fun _ => Builtin.append_ #[26, 26] 26 #[t57, t58]) w fun t59 w =>
  o1 Tryz.prog (Instr.fieldAt 114 t8 0) w fun t60 w =>
  o0 Tryz.prog (Instr.storeAt 26 t60 t59) w fun _ w =>
  dr w.drew fun S1 =>
  mv a0 fun t61 =>
  nilOk t61 = true ∧ mv t61 fun t62 =>
  tk Tryz.prog S1 (Instr.fieldAt 104 t62 0) fun t63 =>
  tk Tryz.prog S1 (Instr.loadAt 102 t63) fun t64 =>
  mv a1 fun t65 =>
  tk Tryz.prog S1 (Instr.loadAt 114 t8) fun t66 =>
  o0 Tryz.prog (Instr.mapUpdate 102 t64 t65 t66) w.drew fun _ w =>
  mv a0 fun t67 =>
  C Tryz.prog N.files_FS_step #[t67] w fun t68 w =>
  mv t68 fun t6_4 =>
  k t6_4 w)
def appendF (z : FsD) (name bts : Bytes) : FsD × Int :=
  if readyE z [name] ≠ 0 then (z, readyE z [name])
  else if lookM name z.m = none ∧ 64 ≤ z.m.length then (z, 10)
  else if 16777216 < ((lookM name z.m).getD ([], 0)).1.length + bts.length then (z, 2)
  else stepF { z with m := putM name (((lookM name z.m).getD ([], 0)).1 ++ bts, ((lookM name z.m).getD ([], 0)).2) z.m }
theorem stepF_m (z : FsD) : (stepF z).1.m = z.m := by unfold stepF; split <;> rfl
section
variable {b : Base} {w : World} {L R : List It} {g gf gm : Nat} {v sv bv : Value} {s l name bts : Bytes} {cs : List Value} {z : FsD}
theorem by_slice (hs : Sep b w L) (hm : Ins L (byF v l).it) : ∃ A c, v = .slice A l.length c := by
  obtain ⟨A, c, h, _⟩ := (hs.get hm).1
  exact ⟨A, c, h⟩
theorem fileC_ones {sv : Value} {n : Int} (h : sv.oneCell' = true) : ∀ u ∈ fileC sv (.int .i64 n), u.oneCell' = true := by
  intro u hu
  simp only [fileC, List.mem_cons, List.not_mem_nil, or_false] at hu
  rcases hu with rfl | rfl
  · exact h
  · rfl
theorem fa_r1 {g8 : Nat} {x : FileD} {K : Value → World → Prop} (hs : Sep b w (blkI g8 T.files_file (fileC sv (.int .i64 x.2)) :: (byF sv x.1).it :: blkI gf T.files_FS (fsV gm z) :: mapI fileF gm z.m :: L))
    (hb : Rds L bv bts.length 1 (u8s bts)) (hbl : bts.length ≤ 4611686018427387904) (hxl : x.1.length ≤ 4611686018427387904) (hnl : name.length ≤ 4611686018427387904)
    (hK : ∀ r w', Sep b w' ((errF r (if 16777216 < x.1.length + bts.length then (z, (2 : Int)) else stepF { z with m := putM name (x.1 ++ bts, x.2) z.m }).2).it :: blkI gf T.files_FS (fsV gm (if 16777216 < x.1.length + bts.length then (z, (2 : Int)) else stepF { z with m := putM name (x.1 ++ bts, x.2) z.m }).1) :: mapI fileF gm (if 16777216 < x.1.length + bts.length then (z, (2 : Int)) else stepF { z with m := putM name (x.1 ++ bts, x.2) z.m }).1.m :: L) → K r w') :
    F.files_FS_Append_r1 K (.pointer (some ⟨gf, 0, none⟩)) (str name) bv (.pointer (some ⟨g8, 0, none⟩)) w := by
  obtain ⟨A0, c0, hbv⟩ := rds_slice hs (.tl (.tl (.tl (.tl hb))))
  have hblen : ∀ w', (Builtin.len_ #[T.sl_uint8] T.int #[bv]).run Tryz.prog w' = .ok (.int .i64 bts.length) w' := fun w' => by rw [hbv]; simp [go_sem]
  clear hbv
  obtain ⟨A1, c1, hsv1⟩ := by_slice hs (.tl .hd)
  have hlen : ∀ w', (Builtin.len_ #[T.sl_uint8] T.int #[sv]).run Tryz.prog w' = .ok (.int .i64 x.1.length) w' := fun w' => by rw [hsv1]; simp [go_sem]
  have hone : sv.cells = #[sv] ∧ sv.oneCell' = true := by rw [hsv1]; exact ⟨rfl, rfl⟩
  unfold F.files_FS_Append_r1
  repeat with_reducible refine mv.mk ?_
  refine st_of (hblen w) ?_
  repeat (first
   | (with_reducible refine file.a0 ?_)
   | ((with_reducible apply file.r0 hs); (· (with_reducible (repeat (first | exact .blk | exact .rng | apply Rng.tl)))))
   | (with_reducible refine file.c0 ?_)
   | ((with_reducible apply file.e0); (· first | exact hS | exact hid); (· (with_reducible (repeat (first | exact .blk | exact .rng | apply Rng.tl)))))
   | (with_reducible (first | refine st_lens ?_ | refine mv.mk ?_ | refine nk_p ?_ | refine br_t ?_ | refine br_f ?_))
   | (with_reducible ((first | apply st_bin | apply st_len); intro k' hk; simp [go_sem, thenR_ok, bin]; refine hk _ _ ?_; clear hk k')))
  refine st_of (hlen w) ?_
  refine sn_sub (by omega) ?_
  repeat (first
   | (with_reducible (first | refine st_lens ?_ | refine mv.mk ?_ | refine nk_p ?_ | refine br_t ?_ | refine br_f ?_))
   | (with_reducible ((first | apply st_bin | apply st_len); intro k' hk; simp [go_sem, thenR_ok, bin]; refine hk _ _ ?_; clear hk k')))
  by_cases h2 : 16777216 < x.1.length + bts.length
  · rw [show decide ((16777216 : Int) - (x.1.length : Int) < (bts.length : Int)) = true by simp; omega]
    rw [if_pos h2] at hK
    repeat (first
     | (with_reducible (first | refine st_lens ?_ | refine mv.mk ?_ | refine nk_p ?_ | refine br_t ?_ | refine br_f ?_))
     | (with_reducible ((first | apply st_bin | apply st_len); intro k' hk; simp [go_sem, thenR_ok, bin]; refine hk _ _ ?_; clear hk k')))
    refine cl (faultS hnl (by decide) (by decide) (by decide) hs) ?_
    rintro r w hs
    repeat with_reducible refine mv.mk ?_
    exact hK r w (hs.sbl (.cons .hd (.drop (.drop .all))))
  rw [show decide ((16777216 : Int) - (x.1.length : Int) < (bts.length : Int)) = false by simp; omega]
  rw [if_neg h2] at hK
  repeat (first
   | (with_reducible refine file.a0 ?_)
   | ((with_reducible apply file.r0 hs); (· (with_reducible (repeat (first | exact .blk | exact .rng | apply Rng.tl)))))
   | (with_reducible refine file.c0 ?_)
   | ((with_reducible apply file.e0); (· first | exact hS | exact hid); (· (with_reducible (repeat (first | exact .blk | exact .rng | apply Rng.tl)))))
   | (with_reducible (first | refine st_lens ?_ | refine mv.mk ?_ | refine nk_p ?_ | refine br_t ?_ | refine br_f ?_))
   | (with_reducible ((first | apply st_bin | apply st_len); intro k' hk; simp [go_sem, thenR_ok, bin]; refine hk _ _ ?_; clear hk k')))
  refine st_of (hlen w) ?_
  repeat (first
   | (with_reducible refine file.a0 ?_)
   | ((with_reducible apply file.r0 hs); (· (with_reducible (repeat (first | exact .blk | exact .rng | apply Rng.tl)))))
   | (with_reducible refine file.c0 ?_)
   | ((with_reducible apply file.e0); (· first | exact hS | exact hid); (· (with_reducible (repeat (first | exact .blk | exact .rng | apply Rng.tl)))))
   | (with_reducible (first | refine st_lens ?_ | refine mv.mk ?_ | refine nk_p ?_ | refine br_t ?_ | refine br_f ?_))
   | (with_reducible ((first | apply st_bin | apply st_len); intro k' hk; simp [go_sem, thenR_ok, bin]; refine hk _ _ ?_; clear hk k')))
  refine st_of (hlen w) ?_
  obtain ⟨A, hrun, hsl, ho⟩ := sl_hm fbT (hs.get (.tl .hd)).1 x.1.length (Nat.le_refl _) .i64 .i64
  have hf := (hs.get (.tl .hd)).2
  rw [List.take_of_length_le (by rw [u8s_length]; omega)] at hsl
  refine st_of (hrun w) ?_
  replace hs := hs.fact (f := byF (.slice A x.1.length x.1.length) x.1) ⟨hsl, fun h0 k hk => hf h0 k (ho ▸ hk)⟩
  repeat with_reducible refine mv.mk ?_
  refine sp_appG hs fbT .hd (.tl (.tl (.tl (.tl (.tl hb))))) (by decide) (by omega) fun nv w hs => ?_
  obtain ⟨A2, c2, hnv⟩ := by_slice hs .hd
  have hone2 : nv.cells = #[nv] ∧ nv.oneCell' = true := by rw [hnv]; exact ⟨rfl, rfl⟩
  repeat (first
   | (with_reducible refine file.a0 ?_)
   | ((with_reducible apply file.r0 hs); (· (with_reducible (repeat (first | exact .blk | exact .rng | apply Rng.tl)))))
   | (with_reducible refine file.c0 ?_)
   | ((with_reducible apply file.e0); (· first | exact hS | exact hid); (· (with_reducible (repeat (first | exact .blk | exact .rng | apply Rng.tl)))))
   | (with_reducible (first | refine st_lens ?_ | refine mv.mk ?_ | refine nk_p ?_ | refine br_t ?_ | refine br_f ?_))
   | (with_reducible ((first | apply st_bin | apply st_len); intro k' hk; simp [go_sem, thenR_ok, bin]; refine hk _ _ ?_; clear hk k')))
  refine sx_st (p := 0) hs (.tl (.tl .hd)) (by kernel_rfl) hone2 (by simp [fileC]) fun w hs => ?_
  replace hs : Sep b w (blkI g8 T.files_file (fileC nv (.int .i64 x.2)) :: (byF nv (x.1 ++ bts)).it :: (byF (.slice A x.1.length x.1.length) x.1).it :: (byF sv x.1).it :: blkI gf T.files_FS (fsV gm z) :: mapI fileF gm z.m :: L) := hs
  replace hs := hs.drew
  refine dr_can hs .all ?_
  repeat (first
   | (with_reducible refine fs.a0 ?_)
   | ((with_reducible apply fs.r0 hs); (· (with_reducible (repeat (first | exact .blk | exact .rng | apply Rng.tl)))))
   | (with_reducible refine fs.c0 ?_)
   | ((with_reducible apply fs.e0); (· first | exact hS | exact hid); (· (with_reducible (repeat (first | exact .blk | exact .rng | apply Rng.tl)))))
   | (with_reducible (first | refine st_lens ?_ | refine mv.mk ?_ | refine nk_p ?_ | refine br_t ?_ | refine br_f ?_))
   | (with_reducible ((first | apply st_bin | apply st_len); intro k' hk; simp [go_sem, thenR_ok, bin]; refine hk _ _ ?_; clear hk k')))
  refine tk_ldn hid (cs := fileC nv (.int .i64 x.2)) (by repeat (first | with_reducible exact Rng.blk | with_reducible exact Rng.rng | with_reducible apply Rng.tl)) (by kernel_rfl) rfl ?_
  refine sp_mapset (F := fileF) (a := (x.1 ++ bts, x.2)) hs (.tl (.tl (.tl (.tl (.tl .hd))))) fileT strT name ⟨nv, rfl, hs.get (.tl .hd)⟩ fun w hs => ?_
  repeat with_reducible refine mv.mk ?_
  replace hs := hs.sbl (L' := blkI gf T.files_FS (fsV gm { z with m := putM name (x.1 ++ bts, x.2) z.m }) :: mapI fileF gm (putM name (x.1 ++ bts, x.2) z.m) :: L) (.cons (.tl (.tl (.tl (.tl (.tl .hd))))) (.cons .hd (.drop (.drop (.drop (.drop .all))))))
  refine cl (files_step hs) ?_
  rintro r w hs
  repeat with_reducible refine mv.mk ?_
  refine hK r w ?_
  rw [stepF_m]
  exact hs
theorem files_Append (hs : Sep b w (blkI gf T.files_FS (fsV gm z) :: mapI fileF gm z.m :: L)) (hnl : name.length ≤ 4611686018427387904) (hb : Rds L bv bts.length 1 (u8s bts)) (hbl : bts.length ≤ 4611686018427387904) (hml : z.m.length ≤ 1000000) (hfl : ∀ x, lookM name z.m = some x → x.1.length ≤ 4611686018427387904) :
    C Tryz.prog N.files_FS_Append #[.pointer (some ⟨gf, 0, none⟩), str name, bv] w fun r w' => Sep b w' ((errF r (appendF z name bts).2).it :: blkI gf T.files_FS (fsV gm (appendF z name bts).1) :: mapI fileF gm (appendF z name bts).1.m :: L) := by
  obtain ⟨A0, c0, hbv⟩ := rds_slice hs (.tl (.tl hb))
  have hblen : ∀ w', (Builtin.len_ #[T.sl_uint8] T.int #[bv]).run Tryz.prog w' = .ok (.int .i64 bts.length) w' := fun w' => by rw [hbv]; simp [go_sem]
  clear hbv
  refine C.files_FS_Append ?_
  unfold F.files_FS_Append
  repeat with_reducible refine mv.mk ?_
  refine nameL (name := name) hs fun nv w hs => ?_
  replace hs := hs.sbl (.cons (.tl .hd) .all)
  refine cl (files_ready (names := [name]) hs .hd (by simpa using hnl) (by simp)) ?_
  rintro e w hs
  repeat with_reducible refine mv.mk ?_
  refine st_of (err_neqF hs .hd) ?_
  by_cases h1 : readyE z [name] = 0
  rotate_left
  · rw [decide_eq_false h1]
    refine br_t ?_
    repeat with_reducible refine mv.mk ?_
    rw [appendF, if_pos h1]
    exact hs.sbl (.cons .hd (.cons .hd (.drop .all)))
  rw [decide_eq_true h1]
  refine br_f ?_
  repeat (first
   | (with_reducible refine fs.a0 ?_)
   | ((with_reducible apply fs.r0 hs); (· (with_reducible (repeat (first | exact .blk | exact .rng | apply Rng.tl)))))
   | (with_reducible refine fs.c0 ?_)
   | ((with_reducible apply fs.e0); (· first | exact hS | exact hid); (· (with_reducible (repeat (first | exact .blk | exact .rng | apply Rng.tl)))))
   | (with_reducible (first | refine st_lens ?_ | refine st_nels ?_ | refine mv.mk ?_ | refine nk_p ?_ | refine gd_u ?_ | refine gd_ft ?_ | refine gd_tf ?_ | refine gd_i ?_ | refine pk_t ?_ | refine pk_f ?_ | refine br_t ?_ | refine br_f ?_))
   | (with_reducible ((first | apply st_bin | apply st_ext | apply st_len | apply st_un); intro k' hk; simp [go_sem, thenR_ok, bin]; refine hk _ _ ?_; clear hk k'))
   | ((with_reducible apply sp_newr hs); (· kernel_rfl); intro g w hs))
  obtain ⟨x, cs, hlk, hrun, hs⟩ : ∃ (x : FileD) (cs : List Value), x = (lookM name z.m).getD ([], 0) ∧ (Instr.lookup T.map_string_files_file (.map (some gm)) (kstr name) true).run Tryz.prog w = .ok (.tuple #[.agg cs.toArray, .bool (lookM name z.m).isSome]) w ∧ Sep b w ((fileF cs x).it :: (errF e (readyE z [name])).it :: blkI gf T.files_FS (fsV gm z) :: (listF nameF 1 nv [name]).it :: mapI fileF gm z.m :: L) := by
    rcases map_look hs (.tl (.tl (.tl .hd))) fileT strT (zeroFile w) name with ⟨q1, q2, q3⟩ | ⟨a, cs, q1, q2, q3, hs⟩
    · exact ⟨([], 0), _, by rw [q1]; rfl, by rw [q1]; exact q2, zeroFileF hs⟩
    · exact ⟨a, cs, by rw [q1]; rfl, by rw [q1]; exact q2, hs⟩
  have hxl : x.1.length ≤ 4611686018427387904 := by
    rw [hlk]
    cases hq : lookM name z.m with
    | none => simp
    | some y => exact hfl y hq
  have hok := hs.ok fileF_ok (cs := cs) .hd
  obtain ⟨sv, hcs, hsv⟩ : FileS _ _ cs x := hs.get .hd
  subst hcs
  obtain ⟨A1, c1, hsv1⟩ := by_slice (hs.fact (f := byF sv x.1) hsv) .hd
  replace hs := hs.fact (f := byF sv x.1) hsv
  have hlen : ∀ w', (Builtin.len_ #[T.sl_uint8] T.int #[sv]).run Tryz.prog w' = .ok (.int .i64 x.1.length) w' := fun w' => by rw [hsv1]; simp [go_sem]
  have hone : sv.cells = #[sv] ∧ sv.oneCell' = true := by rw [hsv1]; exact ⟨rfl, rfl⟩
  refine st_of hrun ?_
  repeat (first
   | (with_reducible (first | refine st_lens ?_ | refine st_nels ?_ | refine mv.mk ?_ | refine nk_p ?_ | refine gd_u ?_ | refine gd_ft ?_ | refine gd_tf ?_ | refine gd_i ?_ | refine pk_t ?_ | refine pk_f ?_ | refine br_t ?_ | refine br_f ?_))
   | (with_reducible ((first | apply st_bin | apply st_ext | apply st_len | apply st_un); intro k' hk; simp [go_sem, thenR_ok, bin]; refine hk _ _ ?_; clear hk k'))
   | ((with_reducible apply sp_newr hs); (· kernel_rfl); intro g w hs))
  refine sp_setr (ds := fileC sv (.int .i64 x.2)) hs .hd (by kernel_rfl) rfl (fileC_ones hone.2) fun w hs => ?_
  repeat (first
   | (with_reducible (first | refine st_lens ?_ | refine st_nels ?_ | refine mv.mk ?_ | refine nk_p ?_ | refine gd_u ?_ | refine gd_ft ?_ | refine gd_tf ?_ | refine gd_i ?_ | refine pk_t ?_ | refine pk_f ?_ | refine br_t ?_ | refine br_f ?_))
   | (with_reducible ((first | apply st_bin | apply st_ext | apply st_len | apply st_un); intro k' hk; simp [go_sem, thenR_ok, bin]; refine hk _ _ ?_; clear hk k'))
   | ((with_reducible apply sp_newr hs); (· kernel_rfl); intro g w hs))
  have hA : appendF z name bts = if lookM name z.m = none ∧ 64 ≤ z.m.length then (z, 10) else if 16777216 < x.1.length + bts.length then (z, 2) else stepF { z with m := putM name (x.1 ++ bts, x.2) z.m } := by
    rw [appendF, if_neg (by simpa using h1), ← hlk]
  have hgo : ¬ (lookM name z.m = none ∧ 64 ≤ z.m.length) → ∀ w, Sep b w (blkI g T.files_file (fileC sv (.int .i64 x.2)) :: (byF sv x.1).it :: (fileF (fileC sv (.int .i64 x.2)) x).it :: (errF e (readyE z [name])).it :: blkI gf T.files_FS (fsV gm z) :: (listF nameF 1 nv [name]).it :: mapI fileF gm z.m :: L) →
      F.files_FS_Append_r1 (fun r w' => Sep b w' ((errF r (appendF z name bts).2).it :: blkI gf T.files_FS (fsV gm (appendF z name bts).1) :: mapI fileF gm (appendF z name bts).1.m :: L)) (.pointer (some ⟨gf, 0, none⟩)) (str name) bv (.pointer (some ⟨g, 0, none⟩)) w := by
    intro hn w hs
    refine fa_r1 (x := x) (hs.sbl (.cons .hd (.cons .hd (.drop (.drop (.cons .hd (.drop .all))))))) hb hbl hxl hnl fun r w' h => ?_
    rw [hA, if_neg hn]
    exact h
  cases hq : (lookM name z.m).isNone with
  | false =>
    repeat (first
     | (with_reducible (first | refine st_lens ?_ | refine st_nels ?_ | refine mv.mk ?_ | refine nk_p ?_ | refine gd_u ?_ | refine gd_ft ?_ | refine gd_tf ?_ | refine gd_i ?_ | refine pk_t ?_ | refine pk_f ?_ | refine br_t ?_ | refine br_f ?_))
     | (with_reducible ((first | apply st_bin | apply st_ext | apply st_len | apply st_un); intro k' hk; simp [go_sem, thenR_ok, bin]; refine hk _ _ ?_; clear hk k'))
     | ((with_reducible apply sp_newr hs); (· kernel_rfl); intro g w hs))
    exact (show mv _ _ from hgo (fun h => by rw [h.1] at hq; cases hq) w hs).out
  | true =>
  have hq' : lookM name z.m = none := by simpa using hq
  repeat (first
   | (with_reducible refine fs.a0 ?_)
   | ((with_reducible apply fs.r0 hs); (· (with_reducible (repeat (first | exact .blk | exact .rng | apply Rng.tl)))))
   | (with_reducible refine fs.c0 ?_)
   | ((with_reducible apply fs.e0); (· first | exact hS | exact hid); (· (with_reducible (repeat (first | exact .blk | exact .rng | apply Rng.tl)))))
   | (with_reducible (first | refine st_lens ?_ | refine st_nels ?_ | refine mv.mk ?_ | refine nk_p ?_ | refine gd_u ?_ | refine gd_ft ?_ | refine gd_tf ?_ | refine gd_i ?_ | refine pk_t ?_ | refine pk_f ?_ | refine br_t ?_ | refine br_f ?_))
   | (with_reducible ((first | apply st_bin | apply st_ext | apply st_len | apply st_un); intro k' hk; simp [go_sem, thenR_ok, bin]; refine hk _ _ ?_; clear hk k'))
   | ((with_reducible apply sp_newr hs); (· kernel_rfl); intro g w hs))
  refine st_of (map_len hs (.tl (.tl (.tl (.tl (.tl (.tl .hd)))))) rfl fileT) ?_
  repeat (first
   | (with_reducible (first | refine st_lens ?_ | refine st_nels ?_ | refine mv.mk ?_ | refine nk_p ?_ | refine gd_u ?_ | refine gd_ft ?_ | refine gd_tf ?_ | refine gd_i ?_ | refine pk_t ?_ | refine pk_f ?_ | refine br_t ?_ | refine br_f ?_))
   | (with_reducible ((first | apply st_bin | apply st_ext | apply st_len | apply st_un); intro k' hk; simp [go_sem, thenR_ok, bin]; refine hk _ _ ?_; clear hk k'))
   | ((with_reducible apply sp_newr hs); (· kernel_rfl); intro g w hs))
  by_cases hl : 64 ≤ z.m.length
  · rw [show decide ((64 : Int) ≤ (z.m.length : Int)) = true by simp; omega]
    repeat (first
     | (with_reducible (first | refine st_lens ?_ | refine st_nels ?_ | refine mv.mk ?_ | refine nk_p ?_ | refine gd_u ?_ | refine gd_ft ?_ | refine gd_tf ?_ | refine gd_i ?_ | refine pk_t ?_ | refine pk_f ?_ | refine br_t ?_ | refine br_f ?_))
     | (with_reducible ((first | apply st_bin | apply st_ext | apply st_len | apply st_un); intro k' hk; simp [go_sem, thenR_ok, bin]; refine hk _ _ ?_; clear hk k'))
     | ((with_reducible apply sp_newr hs); (· kernel_rfl); intro g w hs))
    refine cl (faultS hnl (by decide) (by decide) (by decide) hs) ?_
    rintro r w hs
    repeat with_reducible refine mv.mk ?_
    rw [hA, if_pos ⟨hq', hl⟩]
    exact hs.sbl (.cons .hd (.drop (.drop (.drop (.drop (.cons .hd (.drop .all)))))))
  rw [show decide ((64 : Int) ≤ (z.m.length : Int)) = false by simp; omega]
  repeat (first
   | (with_reducible (first | refine st_lens ?_ | refine st_nels ?_ | refine mv.mk ?_ | refine nk_p ?_ | refine gd_u ?_ | refine gd_ft ?_ | refine gd_tf ?_ | refine gd_i ?_ | refine pk_t ?_ | refine pk_f ?_ | refine br_t ?_ | refine br_f ?_))
   | (with_reducible ((first | apply st_bin | apply st_ext | apply st_len | apply st_un); intro k' hk; simp [go_sem, thenR_ok, bin]; refine hk _ _ ?_; clear hk k'))
   | ((with_reducible apply sp_newr hs); (· kernel_rfl); intro g w hs))
  exact (show mv _ _ from hgo (fun h => hl h.2) w hs).out
end
end Go.Proofs.YtbbmgkbinnomgaaGreatDoor
