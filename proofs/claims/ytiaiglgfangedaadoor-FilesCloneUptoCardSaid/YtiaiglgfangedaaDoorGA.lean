/- The document's files: Start. -/
import Derived.Test.YtiaiglgfangedaaDoorG9
import Derived.Test.YtiaiglgfangedaaDoorFQ
set_option linter.unusedVariables false
set_option linter.unusedSimpArgs false
set_option linter.unusedSectionVars false
namespace Go.Proofs.YtiaiglgfangedaaDoor
open Go Go.Isk Go.RowKit
set_option maxRecDepth 20000
section
variable {b : Base} {w : World} {L R M : List It} {g2 g4 g8 : Nat} {v kv : Value} {cs ds : List Value} {r : RFS} {x : RFile} {keep : List Int}
def nR (x : RFile) (keep : List Int) : Nat := match keep with | [] => 0 | k :: _ => (max (min k x.loose.length) 0).toNat
theorem nR_le (x : RFile) (keep : List Int) : nR x keep ≤ x.loose.length := by
  unfold nR
  split
  · exact Nat.zero_le _
  · omega
theorem cutR_n (x : RFile) (keep : List Int) : cutR x keep = (⟨x.name, x.safe ++ x.loose.take (nR x keep), []⟩, keep.drop 1) := by
  cases keep with
  | nil => simp [cutR, nR]
  | cons k ks => rfl
def oneR (x : RFile) (keep : List Int) (k : Nat) : RFile × Nat := if x.loose = [] then (x, k) else ((cutR x (keep.drop k)).1, k + 1)
theorem isthmusref04_Start (hs : Isk.Sep b w L) (hm : Ins L (rfsF cs r).it) (hk : Ins L (listF iF 1 kv keep).it) (hok : okR r) :
    C Tryd.prog N.isthmusref04_Start #[.agg cs.toArray, kv] w fun v w' => ∃ ds, v = .agg ds.toArray ∧ Isk.Sep b w' ((rfsF ds (startR r keep)).it :: L) := by
  obtain ⟨A1, c1, rfl⟩ := hs.lst_len hk.lst
  obtain ⟨A, c, rfl, hs⟩ := rfs_open hs hm
  have hl := hok.1
  refine C.isthmusref04_Start ?_
  unfold F.isthmusref04_Start
  refine sp_boxa hs fun g2 w hs => ?_
  refine sp_newr hs (by kernel_rfl) fun g4 w hs => ?_
  repeat with_reducible refine mv.mk ?_
  refine lp_by (fun us w' => ∃ (i k : Nat) (out : List RFile) (v y : Value), us = [v, .int .i64 (k : Int), .int .i64 (i : Int), y] ∧ i ≤ r.l.length ∧ k ≤ i ∧ out.length = i ∧ startRL r.l keep = out ++ startRL (r.l.drop i) (keep.drop k) ∧
      Isk.Sep b w' (rowI v T.isthmusref04_File 3 out.length (cellsR out) :: blkI g2 T.isthmusref04_FS (rfsV r (.slice A r.l.length c)) :: resI Tryd.prog g4 T.isthmusref04_FS :: (listF rfF 3 (.slice A r.l.length c) r.l).it :: L)) (fun us _ => match us with | [_, _, .int _ m, _] => r.l.length - m.toNat | _ => 0)
    ⟨0, 0, [], .slice none 0 0, _, rfl, Nat.zero_le _, Nat.le_refl _, rfl, rfl, (hs.row0 T.isthmusref04_File 3).sbl (.cons .hd (.cons (.tl .hd) .all))⟩ ?_
  clear hs
  rintro x1 w ⟨i, k, out, v, y, hx1, hi, hki, ho, hst, hs⟩
  simp only [List.cons.injEq, and_true] at hx1
  simp only [hx1.1, hx1.2.1, hx1.2.2.1, hx1.2.2.2]
  repeat (first
   | (with_reducible refine rfs.a0 ?_)
   | ((with_reducible apply rfs.r0 hs); (· (with_reducible (repeat (first | exact .blk | exact .rng | apply Rng.tl)))))
   | (with_reducible refine rfs.c0 ?_)
   | ((with_reducible apply rfs.e0); (· first | exact hS | exact hid); (· (with_reducible (repeat (first | exact .blk | exact .rng | apply Rng.tl)))))
   | (with_reducible refine rfs.a1 ?_)
   | ((with_reducible apply rfs.r1 hs); (· (with_reducible (repeat (first | exact .blk | exact .rng | apply Rng.tl)))))
   | (with_reducible refine rfs.c1 ?_)
   | ((with_reducible apply rfs.e1); (· first | exact hS | exact hid); (· (with_reducible (repeat (first | exact .blk | exact .rng | apply Rng.tl)))))
   | (with_reducible refine rfs.a2 ?_)
   | ((with_reducible apply rfs.r2 hs); (· (with_reducible (repeat (first | exact .blk | exact .rng | apply Rng.tl)))))
   | (with_reducible refine rfs.c2 ?_)
   | ((with_reducible apply rfs.e2); (· first | exact hS | exact hid); (· (with_reducible (repeat (first | exact .blk | exact .rng | apply Rng.tl)))))
   | (with_reducible refine rfs.a3 ?_)
   | ((with_reducible apply rfs.r3 hs); (· (with_reducible (repeat (first | exact .blk | exact .rng | apply Rng.tl)))))
   | (with_reducible refine rfs.c3 ?_)
   | ((with_reducible apply rfs.e3); (· first | exact hS | exact hid); (· (with_reducible (repeat (first | exact .blk | exact .rng | apply Rng.tl)))))
   | (with_reducible refine rfs.a4 ?_)
   | ((with_reducible apply rfs.r4 hs); (· (with_reducible (repeat (first | exact .blk | exact .rng | apply Rng.tl)))))
   | (with_reducible refine rfs.c4 ?_)
   | ((with_reducible apply rfs.e4); (· first | exact hS | exact hid); (· (with_reducible (repeat (first | exact .blk | exact .rng | apply Rng.tl)))))
   | (with_reducible (first | refine st_lens ?_ | refine st_eqls ?_ | refine st_nels ?_ | refine tk_eqls ?_ | refine tk_nels ?_ | refine mv.mk ?_ | refine nk_p ?_ | refine gdT_i ?_ | refine gdT_ft ?_ | refine gdT_tf ?_ | refine gdT_u ?_ | refine gd_u ?_ | refine gd_ft ?_ | refine gd_tf ?_ | refine gd_i ?_ | refine pk_t ?_ | refine pk_f ?_ | refine br_t ?_ | refine br_f ?_ | refine sp_boxa hs fun g w hs => ?_))
   | (with_reducible ((first | apply st_bin | apply st_ext | apply st_len | apply st_un | apply st_conv | apply st_mki | apply st_fld | apply st_cap | apply st_max | apply st_min | apply st_ixv | apply st_mkf); intro k' hk; simp [go_sem, thenR_ok, bin]; refine hk _ _ ?_; clear hk k'))
   | ((with_reducible (first | apply tk_bin | apply tk_ext | apply tk_len | apply tk_un)); (· intro w; simp [go_sem, bin]; rfl))
   | ((with_reducible apply sp_newr hs); (· kernel_rfl); intro g w hs))
  refine br_split (fun hq => ?_) (fun hq => ?_)
  · have hi' : i < r.l.length := by have := of_decide_eq_true hq; omega
    have hdr : r.l.drop i = r.l[i] :: r.l.drop (i + 1) := by rw [List.drop_eq_getElem_cons hi']
    have hxo := (hok.2 _ (List.getElem_mem hi')).2
    repeat (first
     | (with_reducible refine rfs.a0 ?_)
     | ((with_reducible apply rfs.r0 hs); (· (with_reducible (repeat (first | exact .blk | exact .rng | apply Rng.tl)))))
     | (with_reducible refine rfs.c0 ?_)
     | ((with_reducible apply rfs.e0); (· first | exact hS | exact hid); (· (with_reducible (repeat (first | exact .blk | exact .rng | apply Rng.tl)))))
     | (with_reducible refine rfs.a1 ?_)
     | ((with_reducible apply rfs.r1 hs); (· (with_reducible (repeat (first | exact .blk | exact .rng | apply Rng.tl)))))
     | (with_reducible refine rfs.c1 ?_)
     | ((with_reducible apply rfs.e1); (· first | exact hS | exact hid); (· (with_reducible (repeat (first | exact .blk | exact .rng | apply Rng.tl)))))
     | (with_reducible refine rfs.a2 ?_)
     | ((with_reducible apply rfs.r2 hs); (· (with_reducible (repeat (first | exact .blk | exact .rng | apply Rng.tl)))))
     | (with_reducible refine rfs.c2 ?_)
     | ((with_reducible apply rfs.e2); (· first | exact hS | exact hid); (· (with_reducible (repeat (first | exact .blk | exact .rng | apply Rng.tl)))))
     | (with_reducible refine rfs.a3 ?_)
     | ((with_reducible apply rfs.r3 hs); (· (with_reducible (repeat (first | exact .blk | exact .rng | apply Rng.tl)))))
     | (with_reducible refine rfs.c3 ?_)
     | ((with_reducible apply rfs.e3); (· first | exact hS | exact hid); (· (with_reducible (repeat (first | exact .blk | exact .rng | apply Rng.tl)))))
     | (with_reducible refine rfs.a4 ?_)
     | ((with_reducible apply rfs.r4 hs); (· (with_reducible (repeat (first | exact .blk | exact .rng | apply Rng.tl)))))
     | (with_reducible refine rfs.c4 ?_)
     | ((with_reducible apply rfs.e4); (· first | exact hS | exact hid); (· (with_reducible (repeat (first | exact .blk | exact .rng | apply Rng.tl)))))
     | (with_reducible (first | refine st_lens ?_ | refine st_eqls ?_ | refine st_nels ?_ | refine tk_eqls ?_ | refine tk_nels ?_ | refine mv.mk ?_ | refine nk_p ?_ | refine gdT_i ?_ | refine gdT_ft ?_ | refine gdT_tf ?_ | refine gdT_u ?_ | refine gd_u ?_ | refine gd_ft ?_ | refine gd_tf ?_ | refine gd_i ?_ | refine pk_t ?_ | refine pk_f ?_ | refine br_t ?_ | refine br_f ?_ | refine sp_boxa hs fun g w hs => ?_))
     | (with_reducible ((first | apply st_bin | apply st_ext | apply st_len | apply st_un | apply st_conv | apply st_mki | apply st_fld | apply st_cap | apply st_max | apply st_min | apply st_ixv | apply st_mkf); intro k' hk; simp [go_sem, thenR_ok, bin]; refine hk _ _ ?_; clear hk k'))
     | ((with_reducible (first | apply tk_bin | apply tk_ext | apply tk_len | apply tk_un)); (· intro w; simp [go_sem, bin]; rfl))
     | ((with_reducible apply sp_newr hs); (· kernel_rfl); intro g w hs))
    obtain ⟨g1, o1, y1, hix, hyl, hs⟩ := hs.el (P := Tryd.prog) (T := T.sl_isthmusref04_File) (.tl (.tl (.tl .hd))) rfT i hi'
    have hy : y1 = rfV r.l[i] := hs.get (.tl .hd)
    subst hy
    rw [hdr] at hst
    generalize r.l[i] = x at *
    refine st_of (hix .i64 w) ?_
    refine sp_ldn hs .rng (by kernel_rfl) rfl ?_
    refine sp_newr hs (by kernel_rfl) fun g8 w hs => ?_
    refine sp_setr (ds := rfV x) hs .hd (by kernel_rfl) rfl (rfV_one x) fun w hs => ?_
    replace hs := hs.sbl (L' := blkI g8 T.isthmusref04_File (rfV x) :: rowI v T.isthmusref04_File 3 out.length (cellsR out) :: blkI g2 T.isthmusref04_FS (rfsV r (.slice A r.l.length c)) :: resI Tryd.prog g4 T.isthmusref04_FS :: (listF rfF 3 (.slice A r.l.length c) r.l).it :: L) (.cons .hd (.drop (.drop .all)))
    have hst1 : startRL r.l keep = out ++ (oneR x keep k).1 :: startRL (r.l.drop (i + 1)) (keep.drop (oneR x keep k).2) := by
      rw [hst, startRL]
      unfold oneR
      split
      · rfl
      · rw [cutR_n, List.drop_drop]
    repeat (first
     | (with_reducible refine rfile.a0 ?_)
     | ((with_reducible apply rfile.r0 hs); (· (with_reducible (repeat (first | exact .blk | exact .rng | apply Rng.tl)))))
     | (with_reducible refine rfile.c0 ?_)
     | ((with_reducible apply rfile.e0); (· first | exact hS | exact hid); (· (with_reducible (repeat (first | exact .blk | exact .rng | apply Rng.tl)))))
     | (with_reducible refine rfile.a1 ?_)
     | ((with_reducible apply rfile.r1 hs); (· (with_reducible (repeat (first | exact .blk | exact .rng | apply Rng.tl)))))
     | (with_reducible refine rfile.c1 ?_)
     | ((with_reducible apply rfile.e1); (· first | exact hS | exact hid); (· (with_reducible (repeat (first | exact .blk | exact .rng | apply Rng.tl)))))
     | (with_reducible refine rfile.a2 ?_)
     | ((with_reducible apply rfile.r2 hs); (· (with_reducible (repeat (first | exact .blk | exact .rng | apply Rng.tl)))))
     | (with_reducible refine rfile.c2 ?_)
     | ((with_reducible apply rfile.e2); (· first | exact hS | exact hid); (· (with_reducible (repeat (first | exact .blk | exact .rng | apply Rng.tl)))))
     | (with_reducible (first | refine st_lens ?_ | refine st_eqls ?_ | refine st_nels ?_ | refine tk_eqls ?_ | refine tk_nels ?_ | refine mv.mk ?_ | refine nk_p ?_ | refine gdT_i ?_ | refine gdT_ft ?_ | refine gdT_tf ?_ | refine gdT_u ?_ | refine gd_u ?_ | refine gd_ft ?_ | refine gd_tf ?_ | refine gd_i ?_ | refine pk_t ?_ | refine pk_f ?_ | refine br_t ?_ | refine br_f ?_ | refine sp_boxa hs fun g w hs => ?_))
     | (with_reducible ((first | apply st_bin | apply st_ext | apply st_len | apply st_un | apply st_conv | apply st_mki | apply st_fld | apply st_cap | apply st_max | apply st_min | apply st_ixv | apply st_mkf); intro k' hk; simp [go_sem, thenR_ok, bin]; refine hk _ _ ?_; clear hk k'))
     | ((with_reducible (first | apply tk_bin | apply tk_ext | apply tk_len | apply tk_un)); (· intro w; simp [go_sem, bin]; rfl))
     | ((with_reducible apply sp_newr hs); (· kernel_rfl); intro g w hs))
    refine st_of (nels_run (c := []) w) ?_
    refine jn_by (fun us w' => ∃ y', us = [.int .i64 ((oneR x keep k).2 : Int), y'] ∧ Isk.Sep b w' (blkI g8 T.isthmusref04_File (rfV (oneR x keep k).1) :: rowI v T.isthmusref04_File 3 out.length (cellsR out) :: blkI g2 T.isthmusref04_FS (rfsV r (.slice A r.l.length c)) :: resI Tryd.prog g4 T.isthmusref04_FS :: (listF rfF 3 (.slice A r.l.length c) r.l).it :: L)) ?_ ?_
    · by_cases c0 : x.loose = []
      · rw [decide_eq_true c0]
        have e : oneR x keep k = (x, k) := by rw [oneR, if_pos c0]
        rw [e]
        repeat (first
         | (with_reducible (first | refine st_lens ?_ | refine st_eqls ?_ | refine st_nels ?_ | refine tk_eqls ?_ | refine tk_nels ?_ | refine mv.mk ?_ | refine nk_p ?_ | refine gdT_i ?_ | refine gdT_ft ?_ | refine gdT_tf ?_ | refine gdT_u ?_ | refine gd_u ?_ | refine gd_ft ?_ | refine gd_tf ?_ | refine gd_i ?_ | refine pk_t ?_ | refine pk_f ?_ | refine br_t ?_ | refine br_f ?_ | refine sp_boxa hs fun g w hs => ?_))
         | (with_reducible ((first | apply st_bin | apply st_ext | apply st_len | apply st_un | apply st_conv | apply st_mki | apply st_fld | apply st_cap | apply st_max | apply st_min | apply st_ixv | apply st_mkf); intro k' hk; simp [go_sem, thenR_ok, bin]; refine hk _ _ ?_; clear hk k'))
         | ((with_reducible (first | apply tk_bin | apply tk_ext | apply tk_len | apply tk_un)); (· intro w; simp [go_sem, bin]; rfl))
         | ((with_reducible apply sp_newr hs); (· kernel_rfl); intro g w hs))
        exact ⟨_, rfl, hs⟩
      rw [decide_eq_false c0]
      have e : oneR x keep k = (⟨x.name, x.safe ++ x.loose.take (nR x (keep.drop k)), []⟩, k + 1) := by rw [oneR, if_neg c0, cutR_n]
      rw [e, Bool.not_false]
      repeat (first
       | (with_reducible (first | refine st_lens ?_ | refine st_eqls ?_ | refine st_nels ?_ | refine tk_eqls ?_ | refine tk_nels ?_ | refine mv.mk ?_ | refine nk_p ?_ | refine gdT_i ?_ | refine gdT_ft ?_ | refine gdT_tf ?_ | refine gdT_u ?_ | refine gd_u ?_ | refine gd_ft ?_ | refine gd_tf ?_ | refine gd_i ?_ | refine pk_t ?_ | refine pk_f ?_ | refine br_t ?_ | refine br_f ?_ | refine sp_boxa hs fun g w hs => ?_))
       | (with_reducible ((first | apply st_bin | apply st_ext | apply st_len | apply st_un | apply st_conv | apply st_mki | apply st_fld | apply st_cap | apply st_max | apply st_min | apply st_ixv | apply st_mkf); intro k' hk; simp [go_sem, thenR_ok, bin]; refine hk _ _ ?_; clear hk k'))
       | ((with_reducible (first | apply tk_bin | apply tk_ext | apply tk_len | apply tk_un)); (· intro w; simp [go_sem, bin]; rfl))
       | ((with_reducible apply sp_newr hs); (· kernel_rfl); intro g w hs))
      refine jn_by (fun us w' => us = [.int .i64 (nR x (keep.drop k) : Int)] ∧ Isk.Sep b w' (blkI g8 T.isthmusref04_File (rfV x) :: rowI v T.isthmusref04_File 3 out.length (cellsR out) :: blkI g2 T.isthmusref04_FS (rfsV r (.slice A r.l.length c)) :: resI Tryd.prog g4 T.isthmusref04_FS :: (listF rfF 3 (.slice A r.l.length c) r.l).it :: L)) ?_ ?_
      · refine br_split (fun hq => ?_) (fun hq => ?_)
        · have hkl : k < keep.length := of_decide_eq_true hq
          have en : nR x (keep.drop k) = (max (min keep[k] x.loose.length) 0).toNat := by rw [List.drop_eq_getElem_cons hkl]; rfl
          obtain ⟨g7, o7, y7, hix7, hyl7, hs⟩ := hs.el (P := Tryd.prog) (T := T.sl_int) (.tl (.tl (.tl (.tl (.tl hk))))) fiT k hkl
          have hy : y7 = [.int .i64 keep[k]] := hs.get (.tl .hd)
          subst hy
          have hmm := hs.drew.mayr .all
          have hS : ∀ w', w' = w.drew → Mayr _ w' := fun w' e => e.symm ▸ hmm
          repeat with_reducible refine mv.mk ?_
          refine tk_run (hix7 .i64) ?_
          refine tk_ldx hS .rng (by kernel_rfl) ?_
          repeat (first
           | (with_reducible refine rfile.a0 ?_)
           | ((with_reducible apply rfile.r0 hs); (· (with_reducible (repeat (first | exact .blk | exact .rng | apply Rng.tl)))))
           | (with_reducible refine rfile.c0 ?_)
           | ((with_reducible apply rfile.e0); (· first | exact hS | exact hid); (· (with_reducible (repeat (first | exact .blk | exact .rng | apply Rng.tl)))))
           | (with_reducible refine rfile.a1 ?_)
           | ((with_reducible apply rfile.r1 hs); (· (with_reducible (repeat (first | exact .blk | exact .rng | apply Rng.tl)))))
           | (with_reducible refine rfile.c1 ?_)
           | ((with_reducible apply rfile.e1); (· first | exact hS | exact hid); (· (with_reducible (repeat (first | exact .blk | exact .rng | apply Rng.tl)))))
           | (with_reducible refine rfile.a2 ?_)
           | ((with_reducible apply rfile.r2 hs); (· (with_reducible (repeat (first | exact .blk | exact .rng | apply Rng.tl)))))
           | (with_reducible refine rfile.c2 ?_)
           | ((with_reducible apply rfile.e2); (· first | exact hS | exact hid); (· (with_reducible (repeat (first | exact .blk | exact .rng | apply Rng.tl)))))
           | (with_reducible (first | refine st_lens ?_ | refine st_eqls ?_ | refine st_nels ?_ | refine tk_eqls ?_ | refine tk_nels ?_ | refine mv.mk ?_ | refine nk_p ?_ | refine gdT_i ?_ | refine gdT_ft ?_ | refine gdT_tf ?_ | refine gdT_u ?_ | refine gd_u ?_ | refine gd_ft ?_ | refine gd_tf ?_ | refine gd_i ?_ | refine pk_t ?_ | refine pk_f ?_ | refine br_t ?_ | refine br_f ?_ | refine sp_boxa hs fun g w hs => ?_))
           | (with_reducible ((first | apply st_bin | apply st_ext | apply st_len | apply st_un | apply st_conv | apply st_mki | apply st_fld | apply st_cap | apply st_max | apply st_min | apply st_ixv | apply st_mkf); intro k' hk; simp [go_sem, thenR_ok, bin]; refine hk _ _ ?_; clear hk k'))
           | ((with_reducible (first | apply tk_bin | apply tk_ext | apply tk_len | apply tk_un)); (· intro w; simp [go_sem, bin]; rfl))
           | ((with_reducible apply sp_newr hs); (· kernel_rfl); intro g w hs))
          refine tk_run lens_run ?_
          refine tk_run (min_run _ _) ?_
          refine tk_run (max_run _ _) ?_
          repeat with_reducible refine mv.mk ?_
          refine ⟨?_, hs.drew.sbl (.drop (.drop .all))⟩
          rw [en, Int.toNat_of_nonneg (by omega)]
        · have hkl : ¬ k < keep.length := of_decide_eq_false hq
          refine ⟨?_, hs⟩
          rw [List.drop_of_length_le (by omega)]
          rfl
      · rintro x3 w ⟨hx3, hs⟩
        simp only [List.cons.injEq, and_true] at hx3
        simp only [hx3]
        have hnl := nR_le x (keep.drop k)
        generalize nR x (keep.drop k) = m at *
        repeat (first
         | (with_reducible (first | refine st_lens ?_ | refine st_eqls ?_ | refine st_nels ?_ | refine tk_eqls ?_ | refine tk_nels ?_ | refine mv.mk ?_ | refine nk_p ?_ | refine gdT_i ?_ | refine gdT_ft ?_ | refine gdT_tf ?_ | refine gdT_u ?_ | refine gd_u ?_ | refine gd_ft ?_ | refine gd_tf ?_ | refine gd_i ?_ | refine pk_t ?_ | refine pk_f ?_ | refine br_t ?_ | refine br_f ?_ | refine sp_boxa hs fun g w hs => ?_))
         | (with_reducible ((first | apply st_bin | apply st_ext | apply st_len | apply st_un | apply st_conv | apply st_mki | apply st_fld | apply st_cap | apply st_max | apply st_min | apply st_ixv | apply st_mkf); intro k' hk; simp [go_sem, thenR_ok, bin]; refine hk _ _ ?_; clear hk k'))
         | ((with_reducible (first | apply tk_bin | apply tk_ext | apply tk_len | apply tk_un)); (· intro w; simp [go_sem, bin]; rfl))
         | ((with_reducible apply sp_newr hs); (· kernel_rfl); intro g w hs))
        rw [i64_succ (by omega)]
        replace hs := hs.drew
        refine dr_can hs .all ?_
        repeat (first
         | (with_reducible refine rfile.a0 ?_)
         | ((with_reducible apply rfile.r0 hs); (· (with_reducible (repeat (first | exact .blk | exact .rng | apply Rng.tl)))))
         | (with_reducible refine rfile.c0 ?_)
         | ((with_reducible apply rfile.e0); (· first | exact hS | exact hid); (· (with_reducible (repeat (first | exact .blk | exact .rng | apply Rng.tl)))))
         | (with_reducible refine rfile.a1 ?_)
         | ((with_reducible apply rfile.r1 hs); (· (with_reducible (repeat (first | exact .blk | exact .rng | apply Rng.tl)))))
         | (with_reducible refine rfile.c1 ?_)
         | ((with_reducible apply rfile.e1); (· first | exact hS | exact hid); (· (with_reducible (repeat (first | exact .blk | exact .rng | apply Rng.tl)))))
         | (with_reducible refine rfile.a2 ?_)
         | ((with_reducible apply rfile.r2 hs); (· (with_reducible (repeat (first | exact .blk | exact .rng | apply Rng.tl)))))
         | (with_reducible refine rfile.c2 ?_)
         | ((with_reducible apply rfile.e2); (· first | exact hS | exact hid); (· (with_reducible (repeat (first | exact .blk | exact .rng | apply Rng.tl)))))
         | (with_reducible (first | refine st_lens ?_ | refine st_eqls ?_ | refine st_nels ?_ | refine tk_eqls ?_ | refine tk_nels ?_ | refine mv.mk ?_ | refine nk_p ?_ | refine gdT_i ?_ | refine gdT_ft ?_ | refine gdT_tf ?_ | refine gdT_u ?_ | refine gd_u ?_ | refine gd_ft ?_ | refine gd_tf ?_ | refine gd_i ?_ | refine pk_t ?_ | refine pk_f ?_ | refine br_t ?_ | refine br_f ?_ | refine sp_boxa hs fun g w hs => ?_))
         | (with_reducible ((first | apply st_bin | apply st_ext | apply st_len | apply st_un | apply st_conv | apply st_mki | apply st_fld | apply st_cap | apply st_max | apply st_min | apply st_ixv | apply st_mkf); intro k' hk; simp [go_sem, thenR_ok, bin]; refine hk _ _ ?_; clear hk k'))
         | ((with_reducible (first | apply tk_bin | apply tk_ext | apply tk_len | apply tk_un)); (· intro w; simp [go_sem, bin]; rfl))
         | ((with_reducible apply sp_newr hs); (· kernel_rfl); intro g w hs))
        refine tk_run (pre_run hnl) ?_
        refine tk_run (cat_run (by simp; omega)) ?_
        refine tk_build (cells := (rfV ⟨x.name, x.safe ++ x.loose.take m, []⟩).toArray) (by kernel_rfl) ?_
        refine sp_whole hs .hd (by kernel_rfl) rfl rfl (rfV_one _) fun w hs => ?_
        exact ⟨_, rfl, hs⟩
    · rintro x2 w ⟨y', hx2, hs⟩
      simp only [List.cons.injEq, and_true] at hx2
      simp only [hx2.1, hx2.2]
      have hk2 : (oneR x keep k).2 ≤ i + 1 := by unfold oneR; split <;> simp <;> omega
      generalize oneR x keep k = G at *
      obtain ⟨x', k'⟩ := G
      simp only at hk2 hst1
      repeat with_reducible refine mv.mk ?_
      refine sp_loadall hs .hd (by kernel_rfl) rfl ?_
      refine sp_lita hs rfT rfl (by decide) fun v5 w hs => ?_
      replace hs := rl_of (l := [x']) hs (hs.get .hd)
      refine sp_appR hs (.tl (.tl (.tl .hd))) .hd (by simp; omega) fun v6 w hs => ?_
      repeat (first
       | (with_reducible (first | refine st_lens ?_ | refine st_eqls ?_ | refine st_nels ?_ | refine tk_eqls ?_ | refine tk_nels ?_ | refine mv.mk ?_ | refine nk_p ?_ | refine gdT_i ?_ | refine gdT_ft ?_ | refine gdT_tf ?_ | refine gdT_u ?_ | refine gd_u ?_ | refine gd_ft ?_ | refine gd_tf ?_ | refine gd_i ?_ | refine pk_t ?_ | refine pk_f ?_ | refine br_t ?_ | refine br_f ?_ | refine sp_boxa hs fun g w hs => ?_))
       | (with_reducible ((first | apply st_bin | apply st_ext | apply st_len | apply st_un | apply st_conv | apply st_mki | apply st_fld | apply st_cap | apply st_max | apply st_min | apply st_ixv | apply st_mkf); intro k' hk; simp [go_sem, thenR_ok, bin]; refine hk _ _ ?_; clear hk k'))
       | ((with_reducible (first | apply tk_bin | apply tk_ext | apply tk_len | apply tk_un)); (· intro w; simp [go_sem, bin]; rfl))
       | ((with_reducible apply sp_newr hs); (· kernel_rfl); intro g w hs))
      rw [i64_succ (by omega)]
      refine ⟨⟨i + 1, k', out ++ [x'], v6, y', rfl, hi', hk2, by simp [ho], by rw [hst1]; simp, hs.sbl (.cons .hd (.drop (.drop (.drop .all))))⟩, by simp; omega⟩
  · obtain rfl : i = r.l.length := by have := of_decide_eq_false hq; omega
    rw [List.drop_length, startRL, List.append_nil] at hst
    subst hst
    obtain ⟨A2, c2, rfl⟩ : ∃ A c, v = .slice A (startRL r.l keep).length c := by
      obtain ⟨A, c, h, _⟩ := Sl.of_own (hs.get .hd)
      exact ⟨A, c, h⟩
    repeat (first
     | (with_reducible refine rfs.a0 ?_)
     | ((with_reducible apply rfs.r0 hs); (· (with_reducible (repeat (first | exact .blk | exact .rng | apply Rng.tl)))))
     | (with_reducible refine rfs.c0 ?_)
     | ((with_reducible apply rfs.e0); (· first | exact hS | exact hid); (· (with_reducible (repeat (first | exact .blk | exact .rng | apply Rng.tl)))))
     | (with_reducible refine rfs.a1 ?_)
     | ((with_reducible apply rfs.r1 hs); (· (with_reducible (repeat (first | exact .blk | exact .rng | apply Rng.tl)))))
     | (with_reducible refine rfs.c1 ?_)
     | ((with_reducible apply rfs.e1); (· first | exact hS | exact hid); (· (with_reducible (repeat (first | exact .blk | exact .rng | apply Rng.tl)))))
     | (with_reducible refine rfs.a2 ?_)
     | ((with_reducible apply rfs.r2 hs); (· (with_reducible (repeat (first | exact .blk | exact .rng | apply Rng.tl)))))
     | (with_reducible refine rfs.c2 ?_)
     | ((with_reducible apply rfs.e2); (· first | exact hS | exact hid); (· (with_reducible (repeat (first | exact .blk | exact .rng | apply Rng.tl)))))
     | (with_reducible refine rfs.a3 ?_)
     | ((with_reducible apply rfs.r3 hs); (· (with_reducible (repeat (first | exact .blk | exact .rng | apply Rng.tl)))))
     | (with_reducible refine rfs.c3 ?_)
     | ((with_reducible apply rfs.e3); (· first | exact hS | exact hid); (· (with_reducible (repeat (first | exact .blk | exact .rng | apply Rng.tl)))))
     | (with_reducible refine rfs.a4 ?_)
     | ((with_reducible apply rfs.r4 hs); (· (with_reducible (repeat (first | exact .blk | exact .rng | apply Rng.tl)))))
     | (with_reducible refine rfs.c4 ?_)
     | ((with_reducible apply rfs.e4); (· first | exact hS | exact hid); (· (with_reducible (repeat (first | exact .blk | exact .rng | apply Rng.tl)))))
     | (with_reducible (first | refine st_lens ?_ | refine st_eqls ?_ | refine st_nels ?_ | refine tk_eqls ?_ | refine tk_nels ?_ | refine mv.mk ?_ | refine nk_p ?_ | refine gdT_i ?_ | refine gdT_ft ?_ | refine gdT_tf ?_ | refine gdT_u ?_ | refine gd_u ?_ | refine gd_ft ?_ | refine gd_tf ?_ | refine gd_i ?_ | refine pk_t ?_ | refine pk_f ?_ | refine br_t ?_ | refine br_f ?_ | refine sp_boxa hs fun g w hs => ?_))
     | (with_reducible ((first | apply st_bin | apply st_ext | apply st_len | apply st_un | apply st_conv | apply st_mki | apply st_fld | apply st_cap | apply st_max | apply st_min | apply st_ixv | apply st_mkf); intro k' hk; simp [go_sem, thenR_ok, bin]; refine hk _ _ ?_; clear hk k'))
     | ((with_reducible (first | apply tk_bin | apply tk_ext | apply tk_len | apply tk_un)); (· intro w; simp [go_sem, bin]; rfl))
     | ((with_reducible apply sp_newr hs); (· kernel_rfl); intro g w hs))
    refine st_build (cells := #[.slice A2 (startRL r.l keep).length c2, .int .i64 r.steps, .bool false, .int .i64 0, .bool false]) (by kernel_rfl) ?_
    have hv := row_cells hs .hd
    refine sp_setr (ds := rfsV (startR r keep) (.slice A2 (startRL r.l keep).length c2)) hs (.tl (.tl .hd)) (by kernel_rfl) rfl (rfsC_one hv.2 rfl rfl rfl rfl) fun w hs => sp_rc hs .hd (by kernel_rfl) rfl ?_
    replace hs := hs.rowF (.tl .hd)
    have hs2 := rl_of hs (hs.get .hd)
    exact ⟨_, rfl, (hs2.fact (f := rfsF (rfsV (startR r keep) (.slice A2 (startRL r.l keep).length c2)) (startR r keep)) ⟨_, rfl, hs2.get .hd⟩).sbl (.cons .hd (.drop (.drop (.drop (.drop (.drop .all))))))⟩
end
end Go.Proofs.YtiaiglgfangedaaDoor
