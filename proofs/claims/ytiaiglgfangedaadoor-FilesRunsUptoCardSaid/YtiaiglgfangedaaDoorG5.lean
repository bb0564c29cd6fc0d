/- files: Clone, and what a nil file system answers. -/
import Derived.Test.YtiaiglgfangedaaDoorFW
import Derived.Shelf.SlMaps.Clone
import Derived.Ground.SlmcProg
set_option linter.unusedVariables false
set_option linter.unusedSimpArgs false
set_option linter.unusedSectionVars false
namespace Go.Proofs
open Go.RowKit Go.Maps Go.Shelf
shelf_lay_g SlLaysW.n5 Slmc 5 at Tryd 36 as Tryd.cloneM
end Go.Proofs
namespace Go.Proofs.YtiaiglgfangedaaDoor
open Go Go.Isk Go.RowKit
set_option maxRecDepth 20000
section
variable {b : Base} {w : World} {L R : List It} {g gf gm : Nat} {v sv bv kv av nv : Value} {s l name : Bytes} {cs : List Value} {z : FsD} {n : Int}
theorem mapClone {α : Type} {F : Fam α} {m : AMap α} (hs : Sep b w L) (hm : Ins L (mapI F g m)) :
    C Tryd.prog N.maps_Clone_map_string_files_file_string_files_file #[.map (some g)] w fun r w' => ∃ g2, r = .map (some g2) ∧ Sep b w' (mapI F g2 m :: L) := by
  obtain ⟨es, clock, h1, h2, h3⟩ := hs.get hm
  refine ⟨(AnyW.maps_Clone Tryd.cloneM g es clock w h1).mono ?_⟩
  rintro _ _ ⟨rfl, rfl⟩
  refine ⟨_, rfl, _, rfl, hs.add (upd_alloc _) ?_ ⟨es, clock, (MapKept.heap_alloc w _).1, h2, ?_⟩⟩
  · intro k hk
    simp only [mapI, List.mem_singleton] at hk
    subst hk
    exact ⟨by simp, Nat.le_refl _⟩
  · refine (h3.keep (upd_alloc (S := fun _ => False) _) fun _ _ h => h).mono fun k hk _ => ⟨Nat.lt_of_lt_of_le hk.1 (by simp), fun hh => ?_⟩
    obtain ⟨I, hI, hk2⟩ := hh
    rcases List.mem_cons.1 hI with rfl | hI
    · simp only [mapI, List.mem_singleton] at hk2
      have := hk.1
      omega
    · exact hk.2 ⟨I, hI, hk2⟩
theorem files_Clone (hs : Sep b w (blkI gf T.files_FS (fsV gm z) :: mapI fileF gm z.m :: L)) :
    C Tryd.prog N.files_FS_Clone #[.pointer (some ⟨gf, 0, none⟩)] w fun r w' => ∃ g2 gm2, r = .pointer (some ⟨g2, 0, none⟩) ∧ Sep b w' (blkI g2 T.files_FS (fsV gm2 z) :: mapI fileF gm2 z.m :: blkI gf T.files_FS (fsV gm z) :: mapI fileF gm z.m :: L) := by
  refine C.files_FS_Clone ?_
  unfold F.files_FS_Clone
  repeat (first
   | (with_reducible (first | refine st_lens ?_ | refine st_eqls ?_ | refine st_nels ?_ | refine tk_eqls ?_ | refine tk_nels ?_ | refine mv.mk ?_ | refine nk_p ?_ | refine gdT_i ?_ | refine gdT_ft ?_ | refine gdT_tf ?_ | refine gdT_u ?_ | refine gd_u ?_ | refine gd_ft ?_ | refine gd_tf ?_ | refine gd_i ?_ | refine pk_t ?_ | refine pk_f ?_ | refine br_t ?_ | refine br_f ?_ | refine sp_boxa hs fun g w hs => ?_))
   | (with_reducible ((first | apply st_bin | apply st_ext | apply st_len | apply st_un | apply st_conv | apply st_mki | apply st_fld | apply st_cap | apply st_max | apply st_min | apply st_ixv | apply st_mkf); intro k' hk; simp [go_sem, thenR_ok, bin]; refine hk _ _ ?_; clear hk k'))
   | ((with_reducible (first | apply tk_bin | apply tk_ext | apply tk_len | apply tk_un)); (· intro w; simp [go_sem, bin]; rfl))
   | ((with_reducible apply sp_newr hs); (· kernel_rfl); intro g w hs))
  refine sp_loadall hs .hd (by kernel_rfl) rfl ?_
  repeat (first
   | (with_reducible (first | refine st_lens ?_ | refine st_eqls ?_ | refine st_nels ?_ | refine tk_eqls ?_ | refine tk_nels ?_ | refine mv.mk ?_ | refine nk_p ?_ | refine gdT_i ?_ | refine gdT_ft ?_ | refine gdT_tf ?_ | refine gdT_u ?_ | refine gd_u ?_ | refine gd_ft ?_ | refine gd_tf ?_ | refine gd_i ?_ | refine pk_t ?_ | refine pk_f ?_ | refine br_t ?_ | refine br_f ?_ | refine sp_boxa hs fun g w hs => ?_))
   | (with_reducible ((first | apply st_bin | apply st_ext | apply st_len | apply st_un | apply st_conv | apply st_mki | apply st_fld | apply st_cap | apply st_max | apply st_min | apply st_ixv | apply st_mkf); intro k' hk; simp [go_sem, thenR_ok, bin]; refine hk _ _ ?_; clear hk k'))
   | ((with_reducible (first | apply tk_bin | apply tk_ext | apply tk_len | apply tk_un)); (· intro w; simp [go_sem, bin]; rfl))
   | ((with_reducible apply sp_newr hs); (· kernel_rfl); intro g w hs))
  refine sp_setr (ds := fsV gm z) hs .hd (by kernel_rfl) rfl (by simp [fsC, Value.oneCell']) fun w hs => ?_
  repeat (first
   | (with_reducible refine fs.a0 ?_)
   | ((with_reducible apply fs.r0 hs); (· (with_reducible (repeat (first | exact .blk | exact .rng | apply Rng.tl)))))
   | (with_reducible refine fs.c0 ?_)
   | ((with_reducible apply fs.e0); (· first | exact hS | exact hid); (· (with_reducible (repeat (first | exact .blk | exact .rng | apply Rng.tl)))))
   | (with_reducible refine fs.a1 ?_)
   | ((with_reducible apply fs.r1 hs); (· (with_reducible (repeat (first | exact .blk | exact .rng | apply Rng.tl)))))
   | (with_reducible refine fs.c1 ?_)
   | ((with_reducible apply fs.e1); (· first | exact hS | exact hid); (· (with_reducible (repeat (first | exact .blk | exact .rng | apply Rng.tl)))))
   | (with_reducible refine fs.a2 ?_)
   | ((with_reducible apply fs.r2 hs); (· (with_reducible (repeat (first | exact .blk | exact .rng | apply Rng.tl)))))
   | (with_reducible refine fs.c2 ?_)
   | ((with_reducible apply fs.e2); (· first | exact hS | exact hid); (· (with_reducible (repeat (first | exact .blk | exact .rng | apply Rng.tl)))))
   | (with_reducible refine fs.a3 ?_)
   | ((with_reducible apply fs.r3 hs); (· (with_reducible (repeat (first | exact .blk | exact .rng | apply Rng.tl)))))
   | (with_reducible refine fs.c3 ?_)
   | ((with_reducible apply fs.e3); (· first | exact hS | exact hid); (· (with_reducible (repeat (first | exact .blk | exact .rng | apply Rng.tl)))))
   | (with_reducible refine fs.a4 ?_)
   | ((with_reducible apply fs.r4 hs); (· (with_reducible (repeat (first | exact .blk | exact .rng | apply Rng.tl)))))
   | (with_reducible refine fs.c4 ?_)
   | ((with_reducible apply fs.e4); (· first | exact hS | exact hid); (· (with_reducible (repeat (first | exact .blk | exact .rng | apply Rng.tl)))))
   | (with_reducible (first | refine st_lens ?_ | refine st_eqls ?_ | refine st_nels ?_ | refine tk_eqls ?_ | refine tk_nels ?_ | refine mv.mk ?_ | refine nk_p ?_ | refine gdT_i ?_ | refine gdT_ft ?_ | refine gdT_tf ?_ | refine gdT_u ?_ | refine gd_u ?_ | refine gd_ft ?_ | refine gd_tf ?_ | refine gd_i ?_ | refine pk_t ?_ | refine pk_f ?_ | refine br_t ?_ | refine br_f ?_ | refine sp_boxa hs fun g w hs => ?_))
   | (with_reducible ((first | apply st_bin | apply st_ext | apply st_len | apply st_un | apply st_conv | apply st_mki | apply st_fld | apply st_cap | apply st_max | apply st_min | apply st_ixv | apply st_mkf); intro k' hk; simp [go_sem, thenR_ok, bin]; refine hk _ _ ?_; clear hk k'))
   | ((with_reducible (first | apply tk_bin | apply tk_ext | apply tk_len | apply tk_un)); (· intro w; simp [go_sem, bin]; rfl))
   | ((with_reducible apply sp_newr hs); (· kernel_rfl); intro g w hs))
  refine cl (mapClone hs (.tl (.tl .hd))) ?_
  rintro _ w ⟨g2, rfl, hs⟩
  repeat (first
   | (with_reducible refine fs.a0 ?_)
   | ((with_reducible apply fs.r0 hs); (· (with_reducible (repeat (first | exact .blk | exact .rng | apply Rng.tl)))))
   | (with_reducible refine fs.c0 ?_)
   | ((with_reducible apply fs.e0); (· first | exact hS | exact hid); (· (with_reducible (repeat (first | exact .blk | exact .rng | apply Rng.tl)))))
   | (with_reducible refine fs.a1 ?_)
   | ((with_reducible apply fs.r1 hs); (· (with_reducible (repeat (first | exact .blk | exact .rng | apply Rng.tl)))))
   | (with_reducible refine fs.c1 ?_)
   | ((with_reducible apply fs.e1); (· first | exact hS | exact hid); (· (with_reducible (repeat (first | exact .blk | exact .rng | apply Rng.tl)))))
   | (with_reducible refine fs.a2 ?_)
   | ((with_reducible apply fs.r2 hs); (· (with_reducible (repeat (first | exact .blk | exact .rng | apply Rng.tl)))))
   | (with_reducible refine fs.c2 ?_)
   | ((with_reducible apply fs.e2); (· first | exact hS | exact hid); (· (with_reducible (repeat (first | exact .blk | exact .rng | apply Rng.tl)))))
   | (with_reducible refine fs.a3 ?_)
   | ((with_reducible apply fs.r3 hs); (· (with_reducible (repeat (first | exact .blk | exact .rng | apply Rng.tl)))))
   | (with_reducible refine fs.c3 ?_)
   | ((with_reducible apply fs.e3); (· first | exact hS | exact hid); (· (with_reducible (repeat (first | exact .blk | exact .rng | apply Rng.tl)))))
   | (with_reducible refine fs.a4 ?_)
   | ((with_reducible apply fs.r4 hs); (· (with_reducible (repeat (first | exact .blk | exact .rng | apply Rng.tl)))))
   | (with_reducible refine fs.c4 ?_)
   | ((with_reducible apply fs.e4); (· first | exact hS | exact hid); (· (with_reducible (repeat (first | exact .blk | exact .rng | apply Rng.tl)))))
   | (with_reducible (first | refine st_lens ?_ | refine st_eqls ?_ | refine st_nels ?_ | refine tk_eqls ?_ | refine tk_nels ?_ | refine mv.mk ?_ | refine nk_p ?_ | refine gdT_i ?_ | refine gdT_ft ?_ | refine gdT_tf ?_ | refine gdT_u ?_ | refine gd_u ?_ | refine gd_ft ?_ | refine gd_tf ?_ | refine gd_i ?_ | refine pk_t ?_ | refine pk_f ?_ | refine br_t ?_ | refine br_f ?_ | refine sp_boxa hs fun g w hs => ?_))
   | (with_reducible ((first | apply st_bin | apply st_ext | apply st_len | apply st_un | apply st_conv | apply st_mki | apply st_fld | apply st_cap | apply st_max | apply st_min | apply st_ixv | apply st_mkf); intro k' hk; simp [go_sem, thenR_ok, bin]; refine hk _ _ ?_; clear hk k'))
   | ((with_reducible (first | apply tk_bin | apply tk_ext | apply tk_len | apply tk_un)); (· intro w; simp [go_sem, bin]; rfl))
   | ((with_reducible apply sp_newr hs); (· kernel_rfl); intro g w hs))
  refine sx_st (p := 0) hs (.tl .hd) (by kernel_rfl) ⟨rfl, rfl⟩ (by simp [fsC]) fun w hs => ?_
  repeat with_reducible refine mv.mk ?_
  exact ⟨g, g2, rfl, hs⟩
/-! ### nil -/
theorem files_ready_nil (hs : Sep b w L) (hn : Ins L (listF nameF 1 nv [name]).it) (hnl : name.length ≤ 4611686018427387904) : C Tryd.prog N.files_FS_ready #[.pointer none, nv] w fun r w' => Sep b w' ((errF r 1).it :: L) := by
  obtain ⟨A, c, rfl⟩ := hs.lst_len hn.lst
  refine C.files_FS_ready ?_
  unfold F.files_FS_ready
  repeat (first
   | (with_reducible (first | refine st_lens ?_ | refine st_eqls ?_ | refine st_nels ?_ | refine tk_eqls ?_ | refine tk_nels ?_ | refine mv.mk ?_ | refine nk_p ?_ | refine gdT_i ?_ | refine gdT_ft ?_ | refine gdT_tf ?_ | refine gdT_u ?_ | refine gd_u ?_ | refine gd_ft ?_ | refine gd_tf ?_ | refine gd_i ?_ | refine pk_t ?_ | refine pk_f ?_ | refine br_t ?_ | refine br_f ?_ | refine sp_boxa hs fun g w hs => ?_))
   | (with_reducible ((first | apply st_bin | apply st_ext | apply st_len | apply st_un | apply st_conv | apply st_mki | apply st_fld | apply st_cap | apply st_max | apply st_min | apply st_ixv | apply st_mkf); intro k' hk; simp [go_sem, thenR_ok, bin]; refine hk _ _ ?_; clear hk k'))
   | ((with_reducible (first | apply tk_bin | apply tk_ext | apply tk_len | apply tk_un)); (· intro w; simp [go_sem, bin]; rfl))
   | ((with_reducible apply sp_newr hs); (· kernel_rfl); intro g w hs))
  refine lp_by (fun us w' => ∃ (y1 y2 : Value), us = [y1, y2, .int .i64 0] ∧ Sep b w' L) (fun us _ => 0) ⟨_, _, rfl, hs⟩ ?_
  clear hs
  rintro x1 w ⟨y1, y2, hx1, hs⟩
  simp only [List.cons.injEq, and_true] at hx1
  simp only [hx1.1, hx1.2.1, hx1.2.2]
  repeat (first
   | (with_reducible (first | refine st_lens ?_ | refine st_eqls ?_ | refine st_nels ?_ | refine tk_eqls ?_ | refine tk_nels ?_ | refine mv.mk ?_ | refine nk_p ?_ | refine gdT_i ?_ | refine gdT_ft ?_ | refine gdT_tf ?_ | refine gdT_u ?_ | refine gd_u ?_ | refine gd_ft ?_ | refine gd_tf ?_ | refine gd_i ?_ | refine pk_t ?_ | refine pk_f ?_ | refine br_t ?_ | refine br_f ?_ | refine sp_boxa hs fun g w hs => ?_))
   | (with_reducible ((first | apply st_bin | apply st_ext | apply st_len | apply st_un | apply st_conv | apply st_mki | apply st_fld | apply st_cap | apply st_max | apply st_min | apply st_ixv | apply st_mkf); intro k' hk; simp [go_sem, thenR_ok, bin]; refine hk _ _ ?_; clear hk k'))
   | ((with_reducible (first | apply tk_bin | apply tk_ext | apply tk_len | apply tk_un)); (· intro w; simp [go_sem, bin]; rfl))
   | ((with_reducible apply sp_newr hs); (· kernel_rfl); intro g w hs))
  refine sp_el1 hs hn.lst fsT (by kernel_rfl) 0 rfl (by simp) fun x hs => ?_
  have hx : [x] = [str name] := hs.get .hd
  simp only [List.cons.injEq, and_true] at hx
  subst hx
  replace hs := hs.drop .hd
  repeat (first
   | (with_reducible (first | refine st_lens ?_ | refine st_eqls ?_ | refine st_nels ?_ | refine tk_eqls ?_ | refine tk_nels ?_ | refine mv.mk ?_ | refine nk_p ?_ | refine gdT_i ?_ | refine gdT_ft ?_ | refine gdT_tf ?_ | refine gdT_u ?_ | refine gd_u ?_ | refine gd_ft ?_ | refine gd_tf ?_ | refine gd_i ?_ | refine pk_t ?_ | refine pk_f ?_ | refine br_t ?_ | refine br_f ?_ | refine sp_boxa hs fun g w hs => ?_))
   | (with_reducible ((first | apply st_bin | apply st_ext | apply st_len | apply st_un | apply st_conv | apply st_mki | apply st_fld | apply st_cap | apply st_max | apply st_min | apply st_ixv | apply st_mkf); intro k' hk; simp [go_sem, thenR_ok, bin]; refine hk _ _ ?_; clear hk k'))
   | ((with_reducible (first | apply tk_bin | apply tk_ext | apply tk_len | apply tk_un)); (· intro w; simp [go_sem, bin]; rfl))
   | ((with_reducible apply sp_newr hs); (· kernel_rfl); intro g w hs))
  refine cl (faultS hnl (by decide) (by decide) (by decide) hs) ?_
  rintro r w hs
  repeat with_reducible refine mv.mk ?_
  exact hs
theorem files_find_nil (hs : Sep b w L) (hnl : name.length ≤ 4611686018427387904) :
    C Tryd.prog N.files_FS_find #[.pointer none, str name] w fun r w' => ∃ cs e, r = .tuple #[.agg cs.toArray, e] ∧ Sep b w' ((errF e 1).it :: (fileF cs ([], 0)).it :: L) := by
  refine C.files_FS_find ?_
  unfold F.files_FS_find
  refine sp_newr hs (by kernel_rfl) fun g4 w hs => ?_
  repeat with_reducible refine mv.mk ?_
  refine nameL (name := name) hs fun nv w hs => ?_
  refine cl (files_ready_nil hs .hd hnl) ?_
  rintro e w hs
  repeat with_reducible refine mv.mk ?_
  refine st_of (err_neqF hs .hd) ?_
  rw [decide_eq_false (by decide)]
  refine br_t ?_
  refine st_build (cells := (fileC (.slice none 0 0) (.int .i64 0)).toArray) (by kernel_rfl) ?_
  repeat with_reducible refine mv.mk ?_
  refine sp_setr (ds := fileC (.slice none 0 0) (.int .i64 0)) hs (.tl (.tl .hd)) (by kernel_rfl) rfl (by simp [fileC, Value.oneCell']) fun w hs => mv.mk (sp_rc hs .hd (by kernel_rfl) rfl ?_)
  exact ⟨_, _, rfl, (zeroFileF hs).sbl (.cons (.tl (.tl .hd)) (.cons .hd (.drop (.drop .all))))⟩
theorem files_Read_nil (hs : Sep b w L) (hnl : name.length ≤ 4611686018427387904) :
    C Tryd.prog N.files_FS_Read #[.pointer none, str name] w fun r w' => ∃ v e, r = .tuple #[v, e] ∧ Sep b w' ((errF e 1).it :: L) := by
  refine C.files_FS_Read ?_
  unfold F.files_FS_Read
  repeat with_reducible refine mv.mk ?_
  refine cl (files_find_nil (name := name) hs hnl) ?_
  rintro _ w ⟨cs, e, rfl, hs⟩
  have hok := hs.ok fileF_ok (cs := cs) (.tl .hd)
  obtain ⟨sv, hcs, hsv⟩ : FileS _ _ cs _ := hs.get (.tl .hd)
  subst hcs
  replace hs := hs.fact (f := byF sv []) hsv
  obtain ⟨A1, c1, hsv1⟩ := by_slice hs .hd
  have hone : sv.cells = #[sv] ∧ sv.oneCell' = true := by rw [hsv1]; exact ⟨rfl, rfl⟩
  repeat (first
   | (with_reducible (first | refine st_lens ?_ | refine st_eqls ?_ | refine st_nels ?_ | refine tk_eqls ?_ | refine tk_nels ?_ | refine mv.mk ?_ | refine nk_p ?_ | refine gdT_i ?_ | refine gdT_ft ?_ | refine gdT_tf ?_ | refine gdT_u ?_ | refine gd_u ?_ | refine gd_ft ?_ | refine gd_tf ?_ | refine gd_i ?_ | refine pk_t ?_ | refine pk_f ?_ | refine br_t ?_ | refine br_f ?_ | refine sp_boxa hs fun g w hs => ?_))
   | (with_reducible ((first | apply st_bin | apply st_ext | apply st_len | apply st_un | apply st_conv | apply st_mki | apply st_fld | apply st_cap | apply st_max | apply st_min | apply st_ixv | apply st_mkf); intro k' hk; simp [go_sem, thenR_ok, bin]; refine hk _ _ ?_; clear hk k'))
   | ((with_reducible (first | apply tk_bin | apply tk_ext | apply tk_len | apply tk_un)); (· intro w; simp [go_sem, bin]; rfl))
   | ((with_reducible apply sp_newr hs); (· kernel_rfl); intro g w hs))
  refine sp_setr (ds := fileC sv (.int .i64 0)) hs .hd (by kernel_rfl) hok.1 hok.2 fun w hs => ?_
  repeat (first
   | (with_reducible refine file.a0 ?_)
   | ((with_reducible apply file.r0 hs); (· (with_reducible (repeat (first | exact .blk | exact .rng | apply Rng.tl)))))
   | (with_reducible refine file.c0 ?_)
   | ((with_reducible apply file.e0); (· first | exact hS | exact hid); (· (with_reducible (repeat (first | exact .blk | exact .rng | apply Rng.tl)))))
   | (with_reducible refine file.a1 ?_)
   | ((with_reducible apply file.r1 hs); (· (with_reducible (repeat (first | exact .blk | exact .rng | apply Rng.tl)))))
   | (with_reducible refine file.c1 ?_)
   | ((with_reducible apply file.e1); (· first | exact hS | exact hid); (· (with_reducible (repeat (first | exact .blk | exact .rng | apply Rng.tl)))))
   | (with_reducible (first | refine st_lens ?_ | refine st_eqls ?_ | refine st_nels ?_ | refine tk_eqls ?_ | refine tk_nels ?_ | refine mv.mk ?_ | refine nk_p ?_ | refine gdT_i ?_ | refine gdT_ft ?_ | refine gdT_tf ?_ | refine gdT_u ?_ | refine gd_u ?_ | refine gd_ft ?_ | refine gd_tf ?_ | refine gd_i ?_ | refine pk_t ?_ | refine pk_f ?_ | refine br_t ?_ | refine br_f ?_ | refine sp_boxa hs fun g w hs => ?_))
   | (with_reducible ((first | apply st_bin | apply st_ext | apply st_len | apply st_un | apply st_conv | apply st_mki | apply st_fld | apply st_cap | apply st_max | apply st_min | apply st_ixv | apply st_mkf); intro k' hk; simp [go_sem, thenR_ok, bin]; refine hk _ _ ?_; clear hk k'))
   | ((with_reducible (first | apply tk_bin | apply tk_ext | apply tk_len | apply tk_un)); (· intro w; simp [go_sem, bin]; rfl))
   | ((with_reducible apply sp_newr hs); (· kernel_rfl); intro g w hs))
  refine cl (slices_Clone hs (.tl .hd) (by decide)) ?_
  rintro v w hs
  repeat with_reducible refine mv.mk ?_
  exact ⟨v, e, rfl, hs.sbl (.drop (.drop (.drop (.cons .hd (.drop .all)))))⟩
theorem files_Append_nil (hs : Sep b w L) (hnl : name.length ≤ 4611686018427387904) : C Tryd.prog N.files_FS_Append #[.pointer none, str name, bv] w fun r w' => Sep b w' ((errF r 1).it :: L) := by
  refine C.files_FS_Append ?_
  unfold F.files_FS_Append
  repeat with_reducible refine mv.mk ?_
  refine nameL (name := name) hs fun nv w hs => ?_
  refine cl (files_ready_nil hs .hd hnl) ?_
  rintro e w hs
  repeat with_reducible refine mv.mk ?_
  refine st_of (err_neqF hs .hd) ?_
  rw [decide_eq_false (by decide)]
  refine br_t ?_
  repeat with_reducible refine mv.mk ?_
  exact hs.sbl (.cons .hd (.drop .all))
theorem files_Sync_nil (hs : Sep b w L) (hnl : name.length ≤ 4611686018427387904) : C Tryd.prog N.files_FS_Sync #[.pointer none, str name] w fun r w' => Sep b w' ((errF r 1).it :: L) := by
  refine C.files_FS_Sync ?_
  unfold F.files_FS_Sync
  refine sp_box (cs := [.pointer none]) hs rfl fun g2 w hs => ?_
  refine sp_box (cs := [str name]) hs rfl fun g3 w hs => ?_
  repeat with_reducible refine mv.mk ?_
  refine sp_ldx hs (.tl .blk) (by kernel_rfl) ?_
  refine sp_ldx hs .blk (by kernel_rfl) ?_
  repeat (first
   | (with_reducible (first | refine st_lens ?_ | refine st_eqls ?_ | refine st_nels ?_ | refine tk_eqls ?_ | refine tk_nels ?_ | refine mv.mk ?_ | refine nk_p ?_ | refine gdT_i ?_ | refine gdT_ft ?_ | refine gdT_tf ?_ | refine gdT_u ?_ | refine gd_u ?_ | refine gd_ft ?_ | refine gd_tf ?_ | refine gd_i ?_ | refine pk_t ?_ | refine pk_f ?_ | refine br_t ?_ | refine br_f ?_ | refine sp_boxa hs fun g w hs => ?_))
   | (with_reducible ((first | apply st_bin | apply st_ext | apply st_len | apply st_un | apply st_conv | apply st_mki | apply st_fld | apply st_cap | apply st_max | apply st_min | apply st_ixv | apply st_mkf); intro k' hk; simp [go_sem, thenR_ok, bin]; refine hk _ _ ?_; clear hk k'))
   | ((with_reducible (first | apply tk_bin | apply tk_ext | apply tk_len | apply tk_un)); (· intro w; simp [go_sem, bin]; rfl))
   | ((with_reducible apply sp_newr hs); (· kernel_rfl); intro g w hs))
  refine C.files_FS_change ?_
  unfold F.files_FS_change
  repeat with_reducible refine mv.mk ?_
  refine cl (files_find_nil (name := name) hs hnl) ?_
  rintro _ w ⟨cs, e, rfl, hs⟩
  have hok := hs.ok fileF_ok (cs := cs) (.tl .hd)
  repeat (first
   | (with_reducible (first | refine st_lens ?_ | refine st_eqls ?_ | refine st_nels ?_ | refine tk_eqls ?_ | refine tk_nels ?_ | refine mv.mk ?_ | refine nk_p ?_ | refine gdT_i ?_ | refine gdT_ft ?_ | refine gdT_tf ?_ | refine gdT_u ?_ | refine gd_u ?_ | refine gd_ft ?_ | refine gd_tf ?_ | refine gd_i ?_ | refine pk_t ?_ | refine pk_f ?_ | refine br_t ?_ | refine br_f ?_ | refine sp_boxa hs fun g w hs => ?_))
   | (with_reducible ((first | apply st_bin | apply st_ext | apply st_len | apply st_un | apply st_conv | apply st_mki | apply st_fld | apply st_cap | apply st_max | apply st_min | apply st_ixv | apply st_mkf); intro k' hk; simp [go_sem, thenR_ok, bin]; refine hk _ _ ?_; clear hk k'))
   | ((with_reducible (first | apply tk_bin | apply tk_ext | apply tk_len | apply tk_un)); (· intro w; simp [go_sem, bin]; rfl))
   | ((with_reducible apply sp_newr hs); (· kernel_rfl); intro g w hs))
  refine sp_setr (ds := cs) hs .hd (by kernel_rfl) hok.1 hok.2 fun w hs => ?_
  repeat with_reducible refine mv.mk ?_
  refine st_of (err_neqF hs (.tl .hd)) ?_
  rw [decide_eq_false (by decide)]
  refine br_t ?_
  repeat with_reducible refine mv.mk ?_
  exact hs.sbl (.cons (.tl .hd) (.drop (.drop (.drop (.drop .all)))))
theorem files_Arm_nil (hs : Sep b w L) : C Tryd.prog N.files_FS_Arm #[.pointer none, .int .i64 n] w fun r w' => Sep b w' ((errF r 1).it :: L) := by
  refine C.files_FS_Arm ?_
  unfold F.files_FS_Arm
  repeat (first
   | (with_reducible (first | refine st_lens ?_ | refine st_eqls ?_ | refine st_nels ?_ | refine tk_eqls ?_ | refine tk_nels ?_ | refine mv.mk ?_ | refine nk_p ?_ | refine gdT_i ?_ | refine gdT_ft ?_ | refine gdT_tf ?_ | refine gdT_u ?_ | refine gd_u ?_ | refine gd_ft ?_ | refine gd_tf ?_ | refine gd_i ?_ | refine pk_t ?_ | refine pk_f ?_ | refine br_t ?_ | refine br_f ?_ | refine sp_boxa hs fun g w hs => ?_))
   | (with_reducible ((first | apply st_bin | apply st_ext | apply st_len | apply st_un | apply st_conv | apply st_mki | apply st_fld | apply st_cap | apply st_max | apply st_min | apply st_ixv | apply st_mkf); intro k' hk; simp [go_sem, thenR_ok, bin]; refine hk _ _ ?_; clear hk k'))
   | ((with_reducible (first | apply tk_bin | apply tk_ext | apply tk_len | apply tk_un)); (· intro w; simp [go_sem, bin]; rfl))
   | ((with_reducible apply sp_newr hs); (· kernel_rfl); intro g w hs))
  refine cl (files_fault (x := ⟨#[]⟩) (e := 1) (by decide) (by decide) (by decide) (by decide) hs) ?_
  rintro r w hs
  repeat with_reducible refine mv.mk ?_
  exact hs
theorem files_Down_nil (hs : Sep b w L) : C Tryd.prog N.files_FS_Down #[.pointer none] w fun r w' => r = .bool false ∧ Sep b w' L := by
  refine C.files_FS_Down ?_
  unfold F.files_FS_Down
  repeat (first
   | (with_reducible (first | refine st_lens ?_ | refine st_eqls ?_ | refine st_nels ?_ | refine tk_eqls ?_ | refine tk_nels ?_ | refine mv.mk ?_ | refine nk_p ?_ | refine gdT_i ?_ | refine gdT_ft ?_ | refine gdT_tf ?_ | refine gdT_u ?_ | refine gd_u ?_ | refine gd_ft ?_ | refine gd_tf ?_ | refine gd_i ?_ | refine pk_t ?_ | refine pk_f ?_ | refine br_t ?_ | refine br_f ?_ | refine sp_boxa hs fun g w hs => ?_))
   | (with_reducible ((first | apply st_bin | apply st_ext | apply st_len | apply st_un | apply st_conv | apply st_mki | apply st_fld | apply st_cap | apply st_max | apply st_min | apply st_ixv | apply st_mkf); intro k' hk; simp [go_sem, thenR_ok, bin]; refine hk _ _ ?_; clear hk k'))
   | ((with_reducible (first | apply tk_bin | apply tk_ext | apply tk_len | apply tk_un)); (· intro w; simp [go_sem, bin]; rfl))
   | ((with_reducible apply sp_newr hs); (· kernel_rfl); intro g w hs))
  exact ⟨rfl, hs⟩
theorem files_List_nil (hs : Sep b w L) : C Tryd.prog N.files_FS_List #[.pointer none] w fun r w' => r = .slice none 0 0 ∧ Sep b w' L := by
  refine C.files_FS_List ?_
  unfold F.files_FS_List
  repeat (first
   | (with_reducible (first | refine st_lens ?_ | refine st_eqls ?_ | refine st_nels ?_ | refine tk_eqls ?_ | refine tk_nels ?_ | refine mv.mk ?_ | refine nk_p ?_ | refine gdT_i ?_ | refine gdT_ft ?_ | refine gdT_tf ?_ | refine gdT_u ?_ | refine gd_u ?_ | refine gd_ft ?_ | refine gd_tf ?_ | refine gd_i ?_ | refine pk_t ?_ | refine pk_f ?_ | refine br_t ?_ | refine br_f ?_ | refine sp_boxa hs fun g w hs => ?_))
   | (with_reducible ((first | apply st_bin | apply st_ext | apply st_len | apply st_un | apply st_conv | apply st_mki | apply st_fld | apply st_cap | apply st_max | apply st_min | apply st_ixv | apply st_mkf); intro k' hk; simp [go_sem, thenR_ok, bin]; refine hk _ _ ?_; clear hk k'))
   | ((with_reducible (first | apply tk_bin | apply tk_ext | apply tk_len | apply tk_un)); (· intro w; simp [go_sem, bin]; rfl))
   | ((with_reducible apply sp_newr hs); (· kernel_rfl); intro g w hs))
  exact ⟨rfl, hs⟩
theorem files_Steps_nil (hs : Sep b w L) : C Tryd.prog N.files_FS_Steps #[.pointer none] w fun r w' => r = .int .i64 0 ∧ Sep b w' L := by
  refine C.files_FS_Steps ?_
  unfold F.files_FS_Steps
  repeat (first
   | (with_reducible (first | refine st_lens ?_ | refine st_eqls ?_ | refine st_nels ?_ | refine tk_eqls ?_ | refine tk_nels ?_ | refine mv.mk ?_ | refine nk_p ?_ | refine gdT_i ?_ | refine gdT_ft ?_ | refine gdT_tf ?_ | refine gdT_u ?_ | refine gd_u ?_ | refine gd_ft ?_ | refine gd_tf ?_ | refine gd_i ?_ | refine pk_t ?_ | refine pk_f ?_ | refine br_t ?_ | refine br_f ?_ | refine sp_boxa hs fun g w hs => ?_))
   | (with_reducible ((first | apply st_bin | apply st_ext | apply st_len | apply st_un | apply st_conv | apply st_mki | apply st_fld | apply st_cap | apply st_max | apply st_min | apply st_ixv | apply st_mkf); intro k' hk; simp [go_sem, thenR_ok, bin]; refine hk _ _ ?_; clear hk k'))
   | ((with_reducible (first | apply tk_bin | apply tk_ext | apply tk_len | apply tk_un)); (· intro w; simp [go_sem, bin]; rfl))
   | ((with_reducible apply sp_newr hs); (· kernel_rfl); intro g w hs))
  exact ⟨rfl, hs⟩
theorem files_Clone_nil (hs : Sep b w L) : C Tryd.prog N.files_FS_Clone #[.pointer none] w fun r w' => r = .pointer none ∧ Sep b w' L := by
  refine C.files_FS_Clone ?_
  unfold F.files_FS_Clone
  repeat (first
   | (with_reducible (first | refine st_lens ?_ | refine st_eqls ?_ | refine st_nels ?_ | refine tk_eqls ?_ | refine tk_nels ?_ | refine mv.mk ?_ | refine nk_p ?_ | refine gdT_i ?_ | refine gdT_ft ?_ | refine gdT_tf ?_ | refine gdT_u ?_ | refine gd_u ?_ | refine gd_ft ?_ | refine gd_tf ?_ | refine gd_i ?_ | refine pk_t ?_ | refine pk_f ?_ | refine br_t ?_ | refine br_f ?_ | refine sp_boxa hs fun g w hs => ?_))
   | (with_reducible ((first | apply st_bin | apply st_ext | apply st_len | apply st_un | apply st_conv | apply st_mki | apply st_fld | apply st_cap | apply st_max | apply st_min | apply st_ixv | apply st_mkf); intro k' hk; simp [go_sem, thenR_ok, bin]; refine hk _ _ ?_; clear hk k'))
   | ((with_reducible (first | apply tk_bin | apply tk_ext | apply tk_len | apply tk_un)); (· intro w; simp [go_sem, bin]; rfl))
   | ((with_reducible apply sp_newr hs); (· kernel_rfl); intro g w hs))
  exact ⟨rfl, hs⟩
end
end Go.Proofs.YtiaiglgfangedaaDoor
