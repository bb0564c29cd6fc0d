/- files: New, change, Sync, Read, Safe, Down, Arm. -/
import Derived.Test.YtbbmgkbinnomgaaGreatDoorFN
import Derived.Lib.SliceRun
set_option linter.unusedVariables false
set_option linter.unusedSimpArgs false
set_option linter.unusedSectionVars false
namespace Go.Proofs.YtbbmgkbinnomgaaGreatDoor
open Go Go.Isk Go.RowKit
set_option maxRecDepth 20000
def changeF (z : FsD) (name : Bytes) (dof : FsD → FileD → FsD) : FsD × Int :=
  if findE z name ≠ 0 then (z, findE z name) else if (stepF z).2 ≠ 0 then stepF z else (dof (stepF z).1 (findF z name), 0)
def syncD (name : Bytes) (z : FsD) (x : FileD) : FsD := { z with m := putM name (x.1, (x.1.length : Int)) z.m }
def syncF (z : FsD) (name : Bytes) : FsD × Int := changeF z name (syncD name)
def armF (z : FsD) (n : Int) : FsD × Int := if n < 0 then (z, 1) else if readyE z [] ≠ 0 then (z, readyE z []) else ({ z with armed := true, left := n }, 0)
def newF : FsD := ⟨[], 0, false, 0, false⟩
section
variable {b : Base} {w : World} {L R : List It} {g gf gm : Nat} {v sv bv : Value} {s l name bts : Bytes} {cs : List Value} {z : FsD}
theorem tk_build {P : Program} {S : World → Prop} {t : Nat} {parts : Array (Nat × Value)} {cells : Array Value} {k : Value → Prop} (h : P.built t parts.toList = some cells) (hk : k (.agg cells)) : tk P S (Instr.build t parts) k := tk_of _ (fun w _ => run_build w t parts cells h) hk
theorem files_New (hs : Sep b w L) : C Tryz.prog N.files_New #[] w fun r w' => ∃ gf gm, r = .pointer (some ⟨gf, 0, none⟩) ∧ Sep b w' (blkI gf T.files_FS (fsV gm newF) :: mapI fileF gm newF.m :: L) := by
  refine C.files_New ?_
  unfold F.files_New
  repeat with_reducible refine mv.mk ?_
  refine sp_mkmap hs fileF fun gm w hs => ?_
  refine st_build (cells := (fsV gm newF).toArray) (by kernel_rfl) ?_
  refine sp_boxa hs fun gf w hs => ?_
  repeat with_reducible refine mv.mk ?_
  exact ⟨gf, gm, rfl, hs⟩
theorem files_change {f : Value} {dof : FsD → FileD → FsD} (hs : Sep b w (blkI gf T.files_FS (fsV gm z) :: mapI fileF gm z.m :: L)) (hnl : name.length ≤ 4611686018427387904)
    (hd : ∀ (w : World) (cs : List Value) (z' : FsD) (x : FileD) (L' : List It) (K : Value → World → Prop), (∀ I, Ins L I → Ins L' I) → Sep b w ((fileF cs x).it :: blkI gf T.files_FS (fsV gm z') :: mapI fileF gm z'.m :: L') → (∀ r w', Sep b w' (blkI gf T.files_FS (fsV gm (dof z' x)) :: mapI fileF gm (dof z' x).m :: L') → K r w') → x = findF z name → cv Tryz.prog f #[.agg cs.toArray] w K) :
    C Tryz.prog N.files_FS_change #[.pointer (some ⟨gf, 0, none⟩), str name, f] w fun r w' => Sep b w' ((errF r (changeF z name dof).2).it :: blkI gf T.files_FS (fsV gm (changeF z name dof).1) :: mapI fileF gm (changeF z name dof).1.m :: L) := by
  refine C.files_FS_change ?_
  unfold F.files_FS_change
  repeat with_reducible refine mv.mk ?_
  refine cl (files_find (name := name) hs hnl) ?_
  rintro _ w ⟨cs, e, rfl, hs⟩
  have hok := hs.ok fileF_ok (cs := cs) (.tl .hd)
  repeat (first
   | (with_reducible (first | refine st_nels ?_ | refine mv.mk ?_ | refine br_t ?_ | refine br_f ?_))
   | (with_reducible ((first | apply st_bin | apply st_ext); intro k' hk; simp [go_sem, thenR_ok, bin]; refine hk _ _ ?_; clear hk k'))
   | ((with_reducible apply sp_newr hs); (· kernel_rfl); intro g w hs))
  refine sp_setr (ds := cs) hs .hd (by kernel_rfl) hok.1 hok.2 fun w hs => ?_
  repeat with_reducible refine mv.mk ?_
  refine st_of (err_neqF hs (.tl .hd)) ?_
  by_cases h1 : findE z name = 0
  rotate_left
  · rw [decide_eq_false h1]
    refine br_t ?_
    repeat with_reducible refine mv.mk ?_
    rw [changeF, if_pos h1]
    exact hs.sbl (.cons (.tl .hd) (.drop (.drop .all)))
  rw [decide_eq_true h1]
  refine br_f ?_
  repeat with_reducible refine mv.mk ?_
  replace hs := hs.sbl (.cons (.tl (.tl (.tl .hd))) .all)
  refine cl (files_step hs) ?_
  rintro e2 w hs
  repeat with_reducible refine mv.mk ?_
  refine st_of (err_neqF hs .hd) ?_
  by_cases h2 : (stepF z).2 = 0
  rotate_left
  · rw [decide_eq_false h2]
    refine br_t ?_
    repeat with_reducible refine mv.mk ?_
    rw [changeF, if_neg (by simpa using h1), if_pos h2, stepF_m]
    exact hs.sbl (.cons .hd (.cons .hd (.drop (.drop (.drop .all)))))
  rw [decide_eq_true h2]
  refine br_f ?_
  repeat with_reducible refine mv.mk ?_
  refine sp_loadall hs (.tl (.tl .hd)) (by kernel_rfl) hok.1 ?_
  have hC : changeF z name dof = (dof (stepF z).1 (findF z name), 0) := by rw [changeF, if_neg (by simpa using h1), if_neg (by simpa using h2)]
  rw [hC]
  refine hd w cs (stepF z).1 (findF z name) L _ (fun _ h => h) ?_ (fun r w' hs => ?_) rfl
  · rw [stepF_m]
    exact hs.sbl (.cons (.tl (.tl (.tl (.tl .hd)))) (.cons (.tl .hd) (.drop (.drop (.drop .all)))))
  · repeat with_reducible refine mv.mk ?_
    exact errF_nil hs
theorem Ins.rngB {t : TypeId} (h : Ins L (blkI g t cs)) : Rng L g 0 cs := by
  generalize hI : blkI g t cs = I at h
  induction h with
  | hd => subst hI; exact .blk
  | tl _ ih => exact .tl (ih hI)
theorem sync_1 {g2 g3 : Nat} {x : FileD} (hs : Sep b w ((fileF cs x).it :: blkI gf T.files_FS (fsV gm z) :: mapI fileF gm z.m :: L)) (h2 : Ins L (blkI g2 T.p_files_FS [.pointer (some ⟨gf, 0, none⟩)])) (h3 : Ins L (blkI g3 T.string [str name])) :
    C Tryz.prog N.files_FS_Sync_1 #[.agg cs.toArray, .pointer (some ⟨g2, 0, none⟩), .pointer (some ⟨g3, 0, none⟩)] w fun r w' => Sep b w' (blkI gf T.files_FS (fsV gm (syncD name z x)) :: mapI fileF gm (syncD name z x).m :: L) := by
  obtain ⟨sv, hcs, hsv⟩ : FileS _ _ cs x := hs.get .hd
  subst hcs
  replace hs := hs.fact (f := byF sv x.1) hsv
  obtain ⟨A1, c1, rfl⟩ := by_slice hs .hd
  refine C.files_FS_Sync_1 ?_
  unfold F.files_FS_Sync_1
  refine sp_boxa hs fun g w hs => ?_
  replace hs := hs.drew
  refine dr_can hs .all ?_
  refine tk_ldx hid (.tl (.tl (.tl (.tl (.tl (Ins.rngB h2)))))) (by kernel_rfl) ?_
  repeat (first
   | (with_reducible refine fs.c0 ?_)
   | ((with_reducible apply fs.e0); (· first | exact hS | exact hid); (· (with_reducible (repeat (first | exact .blk | exact .rng | apply Rng.tl)))))
   | (with_reducible (first | refine st_lens ?_ | refine mv.mk ?_ | refine nk_p ?_ | refine sp_boxa hs fun g w hs => ?_))
   | (with_reducible ((first | apply st_len); intro k' hk; simp [go_sem, thenR_ok, bin]; refine hk _ _ ?_; clear hk k'))
   | ((with_reducible (first | apply tk_len)); (· intro w; simp [go_sem, bin]; rfl)))
  refine tk_ldx hid (.tl (.tl (.tl (.tl (.tl (Ins.rngB h3)))))) (by kernel_rfl) ?_
  repeat (first
   | (with_reducible refine file.c0 ?_)
   | ((with_reducible apply file.e0); (· first | exact hS | exact hid); (· (with_reducible (repeat (first | exact .blk | exact .rng | apply Rng.tl)))))
   | (with_reducible (first | refine st_lens ?_ | refine mv.mk ?_ | refine nk_p ?_ | refine sp_boxa hs fun g w hs => ?_))
   | (with_reducible ((first | apply st_len); intro k' hk; simp [go_sem, thenR_ok, bin]; refine hk _ _ ?_; clear hk k'))
   | ((with_reducible (first | apply tk_len)); (· intro w; simp [go_sem, bin]; rfl)))
  refine tk_build (cells := (fileC (.slice A1 x.1.length c1) (.int .i64 (x.1.length : Int))).toArray) (by kernel_rfl) ?_
  refine sp_mapset (F := fileF) (a := (x.1, (x.1.length : Int))) hs (.tl (.tl (.tl (.tl .hd)))) fileT strT name ⟨_, rfl, hs.get (.tl .hd)⟩ fun w hs => ?_
  exact hs.sbl (.cons (.tl (.tl (.tl (.tl .hd)))) (.cons .hd (.drop (.drop (.drop .all)))))
theorem files_Sync (hs : Sep b w (blkI gf T.files_FS (fsV gm z) :: mapI fileF gm z.m :: L)) (hnl : name.length ≤ 4611686018427387904) :
    C Tryz.prog N.files_FS_Sync #[.pointer (some ⟨gf, 0, none⟩), str name] w fun r w' => Sep b w' ((errF r (syncF z name).2).it :: blkI gf T.files_FS (fsV gm (syncF z name).1) :: mapI fileF gm (syncF z name).1.m :: L) := by
  refine C.files_FS_Sync ?_
  unfold F.files_FS_Sync
  refine sp_box (cs := [.pointer (some ⟨gf, 0, none⟩)]) hs rfl fun g2 w hs => ?_
  refine sp_box (cs := [str name]) hs rfl fun g3 w hs => ?_
  repeat with_reducible refine mv.mk ?_
  refine sp_ldx hs (.tl .blk) (by kernel_rfl) ?_
  refine sp_ldx hs .blk (by kernel_rfl) ?_
  repeat (first
   | (with_reducible (first | refine mv.mk ?_ | refine sp_boxa hs fun g w hs => ?_))
   | (with_reducible ((first | apply st_mkf); intro k' hk; simp [go_sem, thenR_ok, bin]; refine hk _ _ ?_; clear hk k')))
  replace hs := hs.sbl (L' := blkI gf T.files_FS (fsV gm z) :: mapI fileF gm z.m :: blkI g3 T.string [str name] :: blkI g2 T.p_files_FS [.pointer (some ⟨gf, 0, none⟩)] :: L) (.cons (.tl (.tl .hd)) (.cons (.tl (.tl .hd)) .all))
  refine cl (files_change (name := name) (dof := syncD name) hs hnl ?_) ?_
  · intro w cs z x L' K hL hs hK _
    refine cv_g (by kernel_rfl) ?_
    refine cl (sync_1 (name := name) (g2 := g2) (g3 := g3) hs (hL _ (.tl .hd)) (hL _ .hd)) ?_
    rintro r w hs
    exact hK r w hs
  · rintro r w hs
    repeat with_reducible refine mv.mk ?_
    exact hs.sbl (.cons .hd (.cons .hd (.cons .hd (.drop (.drop .all)))))
theorem mkNil (hs : Sep b w L) {k : Value → World → Prop} (hk : ∀ v w', Sep b w' (rowI v T.uint8 1 0 [] :: L) → k v w') : o1 Tryz.prog (Instr.buildSlice T.sl_uint8 0 #[]) w k := by
  obtain ⟨e1, hsz, j, z, hj, hz, hs1, hs2, hs3⟩ := slT.spec fbT
  have hr : (Instr.buildSlice T.sl_uint8 0 #[]).run Tryz.prog w = .ok (.slice (some ⟨w.heap.size, 0, none⟩) 0 0) (w.alloc (.cells #[] T.uint8)) := by
    simp [Instr.buildSlice, run_underlying e1, sizeOf, typeInfo, hj, Instr.fill, newRow, newObj, Sem.run, Result.andThen, ← World.alloc_eq]
    apply congrArg
    apply congrArg (Obj.cells · T.uint8)
    apply Array.ext'
    simp
  refine st_of hr (hk _ _ (hs.add (I := rowI (.slice (some ⟨w.heap.size, 0, none⟩) 0 0) T.uint8 1 0 []) (upd_alloc _) ?_ ⟨rfl, .inr ⟨w.heap.size, 0, #[], rfl, Nat.zero_le _, heap_alloc_new w _, Nat.le_refl _, Nat.zero_le _, rfl, rfl⟩⟩))
  intro k hk
  simp only [rowI, Value.ownBlock, Option.mem_toList, Option.some.injEq] at hk
  subst hk
  exact ⟨by simp, Nat.le_refl _⟩
theorem nil_eql {A : Option Addr} {n c : Nat} (o1 o2 : Operand) (w : World) : (bin .eql T.sl_uint8 o1 o2 (.slice A n c) (.slice none 0 0)).run Tryz.prog w = .ok (.bool A.isNone) w := by
  obtain ⟨e1, _⟩ := slT.spec fbT
  have h1 : (eqGuard .eql T.sl_uint8 o1 o2 (.slice A n c) (.slice none 0 0)).run Tryz.prog w = .ok () w := by simp [go_sem]
  rw [bin_run h1]
  exact Lib.run_eql_slice_nil w _ _ A n c 0 0 e1
theorem slices_CloneO (hs : Sep b w L) (hm : Ins L (byF v l).it) (hl : l.length ≤ 1000000000) : C Tryz.prog N.slices_Clone_bytes #[v] w fun r w' => Sep b w' (rowI r T.uint8 1 l.length (u8s l) :: L) := by
  obtain ⟨A, c, rfl⟩ := by_slice hs hm
  refine C.slices_Clone_bytes ?_
  unfold F.slices_Clone_bytes
  repeat with_reducible refine mv.mk ?_
  refine st_of (nil_eql _ _ w) ?_
  cases A with
  | none =>
    refine br_t ?_
    repeat with_reducible refine mv.mk ?_
    have e : l = [] := by
      obtain ⟨A, c, h1, h2, h3, h4⟩ := (hs.get hm).1
      cases h1
      refine List.length_eq_zero_iff.1 (Nat.eq_zero_of_not_pos fun h => ?_)
      obtain ⟨g, o, h5, _⟩ := h4 (by omega)
      cases h5
    rw [e]
    exact hs.row0 T.uint8 1
  | some a =>
    refine br_f ?_
    refine mkNil hs fun v w hs => ?_
    repeat with_reducible refine mv.mk ?_
    refine sp_app hs .hd fbT hm.rds (u8s_one l) (by omega) (by omega) fun nv w hs => ?_
    repeat with_reducible refine mv.mk ?_
    rw [Nat.zero_add, List.nil_append] at hs
    exact hs
theorem files_ReadO (hs : Sep b w (blkI gf T.files_FS (fsV gm z) :: mapI fileF gm z.m :: L)) (hnl : name.length ≤ 4611686018427387904) (hfl : (findF z name).1.length ≤ 1000000000) :
    C Tryz.prog N.files_FS_Read #[.pointer (some ⟨gf, 0, none⟩), str name] w fun r w' => ∃ v e, r = .tuple #[v, e] ∧ Sep b w' (rowI v T.uint8 1 (findF z name).1.length (u8s (findF z name).1) :: (errF e (findE z name)).it :: blkI gf T.files_FS (fsV gm z) :: mapI fileF gm z.m :: L) := by
  refine C.files_FS_Read ?_
  unfold F.files_FS_Read
  repeat with_reducible refine mv.mk ?_
  refine cl (files_find (name := name) hs hnl) ?_
  rintro _ w ⟨cs, e, rfl, hs⟩
  have hok := hs.ok fileF_ok (cs := cs) (.tl .hd)
  obtain ⟨sv, hcs, hsv⟩ : FileS _ _ cs _ := hs.get (.tl .hd)
  subst hcs
  replace hs := hs.fact (f := byF sv (findF z name).1) hsv
  obtain ⟨A1, c1, hsv1⟩ := by_slice hs .hd
  have hone : sv.cells = #[sv] ∧ sv.oneCell' = true := by rw [hsv1]; exact ⟨rfl, rfl⟩
  repeat (first
   | (with_reducible (first | refine mv.mk ?_))
   | (with_reducible ((first | apply st_ext); intro k' hk; simp [go_sem, thenR_ok, bin]; refine hk _ _ ?_; clear hk k'))
   | ((with_reducible apply sp_newr hs); (· kernel_rfl); intro g w hs))
  refine sp_setr (ds := fileC sv (.int .i64 (findF z name).2)) hs .hd (by kernel_rfl) hok.1 hok.2 fun w hs => ?_
  repeat (first
   | (with_reducible refine file.a0 ?_)
   | ((with_reducible apply file.r0 hs); (· (with_reducible (repeat (first | exact .blk | exact .rng | apply Rng.tl)))))
   | (with_reducible (first | refine mv.mk ?_))
   | (with_reducible ((first | apply st_ext); intro k' hk; simp [go_sem, thenR_ok, bin]; refine hk _ _ ?_; clear hk k'))
   | ((with_reducible apply sp_newr hs); (· kernel_rfl); intro g w hs))
  refine cl (slices_CloneO hs (.tl .hd) hfl) ?_
  rintro v w hs
  repeat with_reducible refine mv.mk ?_
  exact ⟨v, e, rfl, hs.sbl (.cons .hd (.cons (.tl (.tl .hd)) (.drop (.drop (.drop .all)))))⟩
theorem files_Read (hs : Sep b w (blkI gf T.files_FS (fsV gm z) :: mapI fileF gm z.m :: L)) (hnl : name.length ≤ 4611686018427387904) (hfl : (findF z name).1.length ≤ 1000000000) :
    C Tryz.prog N.files_FS_Read #[.pointer (some ⟨gf, 0, none⟩), str name] w fun r w' => ∃ v e, r = .tuple #[v, e] ∧ Sep b w' ((byF v (findF z name).1).it :: (errF e (findE z name)).it :: blkI gf T.files_FS (fsV gm z) :: mapI fileF gm z.m :: L) :=
  (files_ReadO hs hnl hfl).mono fun _ _ ⟨v, e, h1, h2⟩ => ⟨v, e, h1, h2.rowB .hd⟩
end
end Go.Proofs.YtbbmgkbinnomgaaGreatDoor
