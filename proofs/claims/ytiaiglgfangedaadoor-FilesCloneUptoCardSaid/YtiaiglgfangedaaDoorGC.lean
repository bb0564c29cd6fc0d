/- files: the law's same: are all files the same? -/
import Derived.Test.YtiaiglgfangedaaDoorGB
set_option linter.unusedVariables false
set_option linter.unusedSimpArgs false
set_option linter.unusedSectionVars false
namespace Go.Proofs.YtiaiglgfangedaaDoor
open Go Go.Isk Go.RowKit
set_option maxRecDepth 20000
section
variable {b : Base} {w : World} {L R M : List It} {g gf gm g4 g5 g6 : Nat} {v sv kv dv e : Value} {cs ds : List Value} {z Z : FsD} {r Q : RFS} {x : ActD} {l : List Int} {k : Value → World → Prop}
theorem Rel.at (h : Rel z r) (n : Bytes) : (getR r n).2 = findE z n ∧ (findE z n = 0 → (getR r n).1.safe ++ (getR r n).1.loose = (findF z n).1 ∧ ((getR r n).1.safe.length : Int) = (findF z n).2) := by
  obtain ⟨h1, h2, _⟩ := h.find n
  refine ⟨h1, fun h0 => ?_⟩
  rw [h2 h0]
  refine ⟨mkR_all, ?_⟩
  obtain ⟨a1, a2, _⟩ := findF_ok h.ok n
  show (((findF z n).1.take (findF z n).2.toNat).length : Int) = _
  rw [List.length_take]
  omega
/-- bytes of one's own are written over -/
theorem over_loop {n : Nat} {xs : List Value} {A c} {ch : Int} (hs : Isk.Sep b w (rowI (.slice A n c) T.uint8 1 n xs :: M)) (hn : n ≤ 1099511627776) {K : Env → World → Prop} (hK : ∀ v w, Isk.Sep b w M → K v w) :
    lp [.int .i64 0] w fun I2 μ2 => ∀ (x2 : Env) (w2 : World), I2 [x2 14] w2 → mv (x2 14) fun t111 => mv (.slice A n c) fun t112 =>
      o1 Tryd.prog (Builtin.len_ #[T.sl_uint8] T.int #[t112]) w2 fun t113 w => o1 Tryd.prog (bin .lss T.int (.tmp 111) (.tmp 113) t111 t113) w fun t114 w =>
      br t114 (fun _ => mv (.slice A n c) fun t117 => mv (x2 14) fun t118 => o1 Tryd.prog (Instr.indexAt T.sl_uint8 t117 t118) w fun t119 w => o0 Tryd.prog (Instr.storeAt T.uint8 t119 (.int .u8 ch)) w fun _ w =>
        mv (x2 14) fun t115 => o1 Tryd.prog (bin .add T.int (.tmp 115) (.const (.int .i64 1)) t115 (.int .i64 1)) w fun t116 w => mv t116 fun t14_1 => I2 [t14_1] w ∧ μ2 [t14_1] w < μ2 [x2 14] w2) (fun _ => K x2 w) := by
  refine lp_by (fun us w' => ∃ (j : Nat) (xs : List Value), us = [.int .i64 (j : Int)] ∧ j ≤ n ∧ Isk.Sep b w' (rowI (.slice A n c) T.uint8 1 n xs :: M)) (fun us _ => match us with | [.int _ m] => n - m.toNat | _ => 0) ⟨0, _, rfl, Nat.zero_le _, hs⟩ ?_
  clear hs
  rintro x3 w ⟨j, xs, hx3, hj, hs⟩
  simp only [List.cons.injEq, and_true] at hx3
  simp only [hx3]
  repeat (first
   | (with_reducible (first | refine st_lens ?_ | refine st_eqls ?_ | refine st_nels ?_ | refine tk_eqls ?_ | refine tk_nels ?_ | refine mv.mk ?_ | refine nk_p ?_ | refine gdT_i ?_ | refine gdT_ft ?_ | refine gdT_tf ?_ | refine gdT_u ?_ | refine gd_u ?_ | refine gd_ft ?_ | refine gd_tf ?_ | refine gd_i ?_ | refine pk_t ?_ | refine pk_f ?_ | refine br_t ?_ | refine br_f ?_ | refine sp_boxa hs fun g w hs => ?_))
   | (with_reducible ((first | apply st_bin | apply st_ext | apply st_len | apply st_un | apply st_conv | apply st_mki | apply st_fld | apply st_cap | apply st_max | apply st_min | apply st_ixv | apply st_mkf); intro k' hk; simp [go_sem, thenR_ok, bin]; refine hk _ _ ?_; clear hk k'))
   | ((with_reducible (first | apply tk_bin | apply tk_ext | apply tk_len | apply tk_un)); (· intro w; simp [go_sem, bin]; rfl))
   | ((with_reducible apply sp_newr hs); (· kernel_rfl); intro g w hs))
  refine br_split (fun hq => ?_) (fun hq => ?_)
  · have hj' : j < n := by have := of_decide_eq_true hq; omega
    repeat with_reducible refine mv.mk ?_
    refine sp_ixset hs .hd fbT (by kernel_rfl) j rfl hj' ⟨rfl, rfl⟩ fun w hs => ?_
    repeat (first
     | (with_reducible (first | refine st_lens ?_ | refine st_eqls ?_ | refine st_nels ?_ | refine tk_eqls ?_ | refine tk_nels ?_ | refine mv.mk ?_ | refine nk_p ?_ | refine gdT_i ?_ | refine gdT_ft ?_ | refine gdT_tf ?_ | refine gdT_u ?_ | refine gd_u ?_ | refine gd_ft ?_ | refine gd_tf ?_ | refine gd_i ?_ | refine pk_t ?_ | refine pk_f ?_ | refine br_t ?_ | refine br_f ?_ | refine sp_boxa hs fun g w hs => ?_))
     | (with_reducible ((first | apply st_bin | apply st_ext | apply st_len | apply st_un | apply st_conv | apply st_mki | apply st_fld | apply st_cap | apply st_max | apply st_min | apply st_ixv | apply st_mkf); intro k' hk; simp [go_sem, thenR_ok, bin]; refine hk _ _ ?_; clear hk k'))
     | ((with_reducible (first | apply tk_bin | apply tk_ext | apply tk_len | apply tk_un)); (· intro w; simp [go_sem, bin]; rfl))
     | ((with_reducible apply sp_newr hs); (· kernel_rfl); intro g w hs))
    rw [i64_succ (by omega)]
    exact ⟨⟨j + 1, _, rfl, hj', hs⟩, by simp; omega⟩
  · exact hK _ w (hs.drop .hd)
theorem isthmuslaw04_same (hR : Rel z r) (hT : Ins L errT.it) (hs : Isk.Sep b w (blkI gf T.files_FS (fsV gm z) :: mapI fileF gm z.m :: L)) (hm : Ins L (rfsF ds r).it) :
    C Tryd.prog N.isthmuslaw04_same #[.pointer (some ⟨gf, 0, none⟩), .agg ds.toArray] w fun v w' => v = .bool true ∧ Isk.Sep b w' (blkI gf T.files_FS (fsV gm z) :: mapI fileF gm z.m :: L) := by
  obtain ⟨A, c, rfl, hs⟩ := rfs_open hs (.tl (.tl hm))
  have hok := hR.okR
  have hnm := hR.names
  have hl64 := hok.1
  have hml : z.m.length ≤ 1000000 := Nat.le_trans hR.ok.n (by decide)
  refine C.isthmuslaw04_same ?_
  unfold F.isthmuslaw04_same
  refine sp_boxa hs fun g3 w hs => ?_
  repeat with_reducible refine mv.mk ?_
  replace hs := hs.sbl (L' := blkI gf T.files_FS (fsV gm z) :: mapI fileF gm z.m :: blkI g3 T.isthmusref04_FS (rfsV r (.slice A r.l.length c)) :: (listF rfF 3 (.slice A r.l.length c) r.l).it :: L) (.cons (.tl (.tl .hd)) (.cons (.tl (.tl .hd)) .all))
  refine cl (files_List hs hR.ok.m hml) ?_
  rintro v w hs
  rw [hnm] at hs
  replace hs := hs.growF .hd
  obtain ⟨A1, c1, rfl⟩ := hs.lst_len .lst
  rw [List.length_map]
  repeat with_reducible refine mv.mk ?_
  replace hs := hs.drew
  refine dr_can (R := [blkI g3 T.isthmusref04_FS (rfsV r (.slice A r.l.length c))]) hs (.drop (.drop (.drop (.cons .hd .nil)))) ?_
  have hS : ∀ w, Mayr [blkI g3 T.isthmusref04_FS (rfsV r (.slice A r.l.length c))] w → Mayr [blkI g3 T.isthmusref04_FS (rfsV r (.slice A r.l.length c))] w := fun _ h => h
  repeat (first
   | (with_reducible refine rfs.a0 ?_)
   | ((with_reducible apply rfs.r0 hs); (· (with_reducible (repeat (first | exact .blk | exact .rng | apply Rng.tl)))))
   | (with_reducible refine rfs.c0 ?_)
   | ((with_reducible apply rfs.e0); (· first | exact hS | exact hid); (· (with_reducible (repeat (first | exact .blk | exact .rng | apply Rng.tl)))))
   | (with_reducible refine rfs.a1 ?_)
   | ((with_reducible apply rfs.r1 hs); (· (with_reducible (repeat (first | exact .blk | exact .rng | apply Rng.tl)))))
   | (with_reducible refine rfs.c1 ?_)
   | ((with_reducible apply rfs.e1); (· first | exact hS | exact hid); (· (with_reducible (repeat (first | exact .blk | exact .rng | apply Rng.tl)))))
   | (with_reducible refine rfs.a2 ?_)
   | ((with_reducible apply rfs.r2 hs); (· (with_reducible (repeat (first | exact .blk | exact .rng | apply Rng.tl)))))
   | (with_reducible refine rfs.c2 ?_)
   | ((with_reducible apply rfs.e2); (· first | exact hS | exact hid); (· (with_reducible (repeat (first | exact .blk | exact .rng | apply Rng.tl)))))
   | (with_reducible refine rfs.a3 ?_)
   | ((with_reducible apply rfs.r3 hs); (· (with_reducible (repeat (first | exact .blk | exact .rng | apply Rng.tl)))))
   | (with_reducible refine rfs.c3 ?_)
   | ((with_reducible apply rfs.e3); (· first | exact hS | exact hid); (· (with_reducible (repeat (first | exact .blk | exact .rng | apply Rng.tl)))))
   | (with_reducible refine rfs.a4 ?_)
   | ((with_reducible apply rfs.r4 hs); (· (with_reducible (repeat (first | exact .blk | exact .rng | apply Rng.tl)))))
   | (with_reducible refine rfs.c4 ?_)
   | ((with_reducible apply rfs.e4); (· first | exact hS | exact hid); (· (with_reducible (repeat (first | exact .blk | exact .rng | apply Rng.tl)))))
   | (with_reducible (first | refine st_lens ?_ | refine st_eqls ?_ | refine st_nels ?_ | refine tk_eqls ?_ | refine tk_nels ?_ | refine mv.mk ?_ | refine nk_p ?_ | refine gdT_i ?_ | refine gdT_ft ?_ | refine gdT_tf ?_ | refine gdT_u ?_ | refine gd_u ?_ | refine gd_ft ?_ | refine gd_tf ?_ | refine gd_i ?_ | refine pk_t ?_ | refine pk_f ?_ | refine br_t ?_ | refine br_f ?_ | refine sp_boxa hs fun g w hs => ?_))
   | (with_reducible ((first | apply st_bin | apply st_ext | apply st_len | apply st_un | apply st_conv | apply st_mki | apply st_fld | apply st_cap | apply st_max | apply st_min | apply st_ixv | apply st_mkf); intro k' hk; simp [go_sem, thenR_ok, bin]; refine hk _ _ ?_; clear hk k'))
   | ((with_reducible (first | apply tk_bin | apply tk_ext | apply tk_len | apply tk_un)); (· intro w; simp [go_sem, bin]; rfl))
   | ((with_reducible apply sp_newr hs); (· kernel_rfl); intro g w hs))
  replace hs := hs.sbl (L' := blkI gf T.files_FS (fsV gm z) :: mapI fileF gm z.m :: blkI g3 T.isthmusref04_FS (rfsV r (.slice A r.l.length c)) :: (listF nameF 1 (.slice A1 (r.l.map (·.name)).length c1) (r.l.map (·.name))).it :: (listF rfF 3 (.slice A r.l.length c) r.l).it :: L) (.cons (.tl .hd) (.cons (.tl .hd) (.cons (.tl .hd) .all)))
  refine cl (files_Down hs) ?_
  rintro _ w ⟨rfl, hs⟩
  refine ⟨hs.mayr (.drop (.drop (.cons .hd .nil))), ?_⟩
  rw [hR.dn]
  repeat (first
   | (with_reducible refine rfs.a0 ?_)
   | ((with_reducible apply rfs.r0 hs); (· (with_reducible (repeat (first | exact .blk | exact .rng | apply Rng.tl)))))
   | (with_reducible refine rfs.c0 ?_)
   | ((with_reducible apply rfs.e0); (· first | exact hS | exact hid); (· (with_reducible (repeat (first | exact .blk | exact .rng | apply Rng.tl)))))
   | (with_reducible refine rfs.a1 ?_)
   | ((with_reducible apply rfs.r1 hs); (· (with_reducible (repeat (first | exact .blk | exact .rng | apply Rng.tl)))))
   | (with_reducible refine rfs.c1 ?_)
   | ((with_reducible apply rfs.e1); (· first | exact hS | exact hid); (· (with_reducible (repeat (first | exact .blk | exact .rng | apply Rng.tl)))))
   | (with_reducible refine rfs.a2 ?_)
   | ((with_reducible apply rfs.r2 hs); (· (with_reducible (repeat (first | exact .blk | exact .rng | apply Rng.tl)))))
   | (with_reducible refine rfs.c2 ?_)
   | ((with_reducible apply rfs.e2); (· first | exact hS | exact hid); (· (with_reducible (repeat (first | exact .blk | exact .rng | apply Rng.tl)))))
   | (with_reducible refine rfs.a3 ?_)
   | ((with_reducible apply rfs.r3 hs); (· (with_reducible (repeat (first | exact .blk | exact .rng | apply Rng.tl)))))
   | (with_reducible refine rfs.c3 ?_)
   | ((with_reducible apply rfs.e3); (· first | exact hS | exact hid); (· (with_reducible (repeat (first | exact .blk | exact .rng | apply Rng.tl)))))
   | (with_reducible refine rfs.a4 ?_)
   | ((with_reducible apply rfs.r4 hs); (· (with_reducible (repeat (first | exact .blk | exact .rng | apply Rng.tl)))))
   | (with_reducible refine rfs.c4 ?_)
   | ((with_reducible apply rfs.e4); (· first | exact hS | exact hid); (· (with_reducible (repeat (first | exact .blk | exact .rng | apply Rng.tl)))))
   | (with_reducible (first | refine st_lens ?_ | refine st_eqls ?_ | refine st_nels ?_ | refine tk_eqls ?_ | refine tk_nels ?_ | refine mv.mk ?_ | refine nk_p ?_ | refine gdT_i ?_ | refine gdT_ft ?_ | refine gdT_tf ?_ | refine gdT_u ?_ | refine gd_u ?_ | refine gd_ft ?_ | refine gd_tf ?_ | refine gd_i ?_ | refine pk_t ?_ | refine pk_f ?_ | refine br_t ?_ | refine br_f ?_ | refine sp_boxa hs fun g w hs => ?_))
   | (with_reducible ((first | apply st_bin | apply st_ext | apply st_len | apply st_un | apply st_conv | apply st_mki | apply st_fld | apply st_cap | apply st_max | apply st_min | apply st_ixv | apply st_mkf); intro k' hk; simp [go_sem, thenR_ok, bin]; refine hk _ _ ?_; clear hk k'))
   | ((with_reducible (first | apply tk_bin | apply tk_ext | apply tk_len | apply tk_un)); (· intro w; simp [go_sem, bin]; rfl))
   | ((with_reducible apply sp_newr hs); (· kernel_rfl); intro g w hs))
  refine nS_can (R := [blkI g3 T.isthmusref04_FS (rfsV r (.slice A r.l.length c))]) hs (.drop (.drop (.cons .hd .nil))) .all ?_
  repeat (first
   | (with_reducible refine rfs.a0 ?_)
   | ((with_reducible apply rfs.r0 hs); (· (with_reducible (repeat (first | exact .blk | exact .rng | apply Rng.tl)))))
   | (with_reducible refine rfs.c0 ?_)
   | ((with_reducible apply rfs.e0); (· first | exact hS | exact hid); (· (with_reducible (repeat (first | exact .blk | exact .rng | apply Rng.tl)))))
   | (with_reducible refine rfs.a1 ?_)
   | ((with_reducible apply rfs.r1 hs); (· (with_reducible (repeat (first | exact .blk | exact .rng | apply Rng.tl)))))
   | (with_reducible refine rfs.c1 ?_)
   | ((with_reducible apply rfs.e1); (· first | exact hS | exact hid); (· (with_reducible (repeat (first | exact .blk | exact .rng | apply Rng.tl)))))
   | (with_reducible refine rfs.a2 ?_)
   | ((with_reducible apply rfs.r2 hs); (· (with_reducible (repeat (first | exact .blk | exact .rng | apply Rng.tl)))))
   | (with_reducible refine rfs.c2 ?_)
   | ((with_reducible apply rfs.e2); (· first | exact hS | exact hid); (· (with_reducible (repeat (first | exact .blk | exact .rng | apply Rng.tl)))))
   | (with_reducible refine rfs.a3 ?_)
   | ((with_reducible apply rfs.r3 hs); (· (with_reducible (repeat (first | exact .blk | exact .rng | apply Rng.tl)))))
   | (with_reducible refine rfs.c3 ?_)
   | ((with_reducible apply rfs.e3); (· first | exact hS | exact hid); (· (with_reducible (repeat (first | exact .blk | exact .rng | apply Rng.tl)))))
   | (with_reducible refine rfs.a4 ?_)
   | ((with_reducible apply rfs.r4 hs); (· (with_reducible (repeat (first | exact .blk | exact .rng | apply Rng.tl)))))
   | (with_reducible refine rfs.c4 ?_)
   | ((with_reducible apply rfs.e4); (· first | exact hS | exact hid); (· (with_reducible (repeat (first | exact .blk | exact .rng | apply Rng.tl)))))
   | (with_reducible (first | refine st_lens ?_ | refine st_eqls ?_ | refine st_nels ?_ | refine tk_eqls ?_ | refine tk_nels ?_ | refine mv.mk ?_ | refine nk_p ?_ | refine gdT_i ?_ | refine gdT_ft ?_ | refine gdT_tf ?_ | refine gdT_u ?_ | refine gd_u ?_ | refine gd_ft ?_ | refine gd_tf ?_ | refine gd_i ?_ | refine pk_t ?_ | refine pk_f ?_ | refine br_t ?_ | refine br_f ?_ | refine sp_boxa hs fun g w hs => ?_))
   | (with_reducible ((first | apply st_bin | apply st_ext | apply st_len | apply st_un | apply st_conv | apply st_mki | apply st_fld | apply st_cap | apply st_max | apply st_min | apply st_ixv | apply st_mkf); intro k' hk; simp [go_sem, thenR_ok, bin]; refine hk _ _ ?_; clear hk k'))
   | ((with_reducible (first | apply tk_bin | apply tk_ext | apply tk_len | apply tk_un)); (· intro w; simp [go_sem, bin]; rfl))
   | ((with_reducible apply sp_newr hs); (· kernel_rfl); intro g w hs))
  refine cl (files_Steps hs) ?_
  rintro _ w ⟨rfl, hs⟩
  refine ⟨hs.mayr (.drop (.drop (.cons .hd .nil))), ?_⟩
  rw [hR.st]
  repeat (first
   | (with_reducible (first | refine st_lens ?_ | refine st_eqls ?_ | refine st_nels ?_ | refine tk_eqls ?_ | refine tk_nels ?_ | refine mv.mk ?_ | refine nk_p ?_ | refine gdT_i ?_ | refine gdT_ft ?_ | refine gdT_tf ?_ | refine gdT_u ?_ | refine gd_u ?_ | refine gd_ft ?_ | refine gd_tf ?_ | refine gd_i ?_ | refine pk_t ?_ | refine pk_f ?_ | refine br_t ?_ | refine br_f ?_ | refine sp_boxa hs fun g w hs => ?_))
   | (with_reducible ((first | apply st_bin | apply st_ext | apply st_len | apply st_un | apply st_conv | apply st_mki | apply st_fld | apply st_cap | apply st_max | apply st_min | apply st_ixv | apply st_mkf); intro k' hk; simp [go_sem, thenR_ok, bin]; refine hk _ _ ?_; clear hk k'))
   | ((with_reducible (first | apply tk_bin | apply tk_ext | apply tk_len | apply tk_un)); (· intro w; simp [go_sem, bin]; rfl))
   | ((with_reducible apply sp_newr hs); (· kernel_rfl); intro g w hs))
  refine lp_by (fun us w' => ∃ (i : Nat) (y1 y2 y3 y4 y5 y6 y7 y8 : Value), us = [.bool false, .int .i64 (i : Int), y1, y2, y3, y4, y5, y6, y7, y8] ∧ i ≤ r.l.length ∧ Isk.Sep b w' (blkI gf T.files_FS (fsV gm z) :: mapI fileF gm z.m :: blkI g3 T.isthmusref04_FS (rfsV r (.slice A r.l.length c)) :: (listF nameF 1 (.slice A1 (r.l.map (·.name)).length c1) (r.l.map (·.name))).it :: (listF rfF 3 (.slice A r.l.length c) r.l).it :: L))
    (fun us _ => match us with | _ :: .int _ m :: _ => r.l.length - m.toNat | _ => 0) ⟨0, _, _, _, _, _, _, _, _, rfl, Nat.zero_le _, hs⟩ ?_
  clear hs hS
  rintro x1 w ⟨i, y1, y2, y3, y4, y5, y6, y7, y8, hx1, hi, hs⟩
  simp only [List.cons.injEq, and_true] at hx1
  obtain ⟨hx4, hx6, hx1⟩ := hx1
  simp only [hx4, hx6]
  repeat (first
   | (with_reducible (first | refine st_lens ?_ | refine st_eqls ?_ | refine st_nels ?_ | refine tk_eqls ?_ | refine tk_nels ?_ | refine mv.mk ?_ | refine nk_p ?_ | refine gdT_i ?_ | refine gdT_ft ?_ | refine gdT_tf ?_ | refine gdT_u ?_ | refine gd_u ?_ | refine gd_ft ?_ | refine gd_tf ?_ | refine gd_i ?_ | refine pk_t ?_ | refine pk_f ?_ | refine br_t ?_ | refine br_f ?_ | refine sp_boxa hs fun g w hs => ?_))
   | (with_reducible ((first | apply st_bin | apply st_ext | apply st_len | apply st_un | apply st_conv | apply st_mki | apply st_fld | apply st_cap | apply st_max | apply st_min | apply st_ixv | apply st_mkf); intro k' hk; simp [go_sem, thenR_ok, bin]; refine hk _ _ ?_; clear hk k'))
   | ((with_reducible (first | apply tk_bin | apply tk_ext | apply tk_len | apply tk_un)); (· intro w; simp [go_sem, bin]; rfl))
   | ((with_reducible apply sp_newr hs); (· kernel_rfl); intro g w hs))
  refine br_split (fun hq => ?_) (fun hq => ?_)
  · have hi' : i < r.l.length := by have := of_decide_eq_true hq; simpa using this
    have hil : i < (r.l.map (·.name)).length := by rw [List.length_map]; exact hi'
    obtain ⟨g1, o1, e1, hix, hxl, hs⟩ := hs.el (P := Tryd.prog) (T := T.sl_string) (.tl (.tl (.tl .hd))) fsT i hil
    have he1 : e1 = [str (r.l.map (·.name))[i]] := hs.get (.tl .hd)
    rw [List.getElem_map] at he1
    rw [List.length_map] at hix
    subst he1
    obtain ⟨g2, o2, e2, hix2, hxl2, hs⟩ := hs.el (P := Tryd.prog) (T := T.sl_isthmusref04_File) (.tl (.tl (.tl (.tl (.tl (.tl .hd)))))) rfT i hi'
    have he2 : e2 = rfV r.l[i] := hs.get (.tl .hd)
    subst he2
    have hnl : r.l[i].name.length ≤ 64 := (hok.2 _ (List.getElem_mem hi')).1
    generalize r.l[i] = y at *
    obtain ⟨hat1, hat2⟩ := hR.at y.name
    have hfl : (findF z y.name).1.length ≤ 16777216 := (findF_ok hR.ok y.name).2.2
    replace hs := hs.sbl (.cons (.tl (.tl (.tl (.tl .hd)))) (.cons (.tl (.tl (.tl (.tl .hd)))) .all))
    repeat with_reducible refine mv.mk ?_
    refine st_of (hix .i64 w) ?_
    refine sp_ldx hs (.tl (.tl (.tl (.tl .rng)))) (by kernel_rfl) ?_
    refine cl (files_ReadO (name := y.name) hs (by omega) (by omega)) ?_
    rintro _ w ⟨v, e, rfl, hs⟩
    obtain ⟨A3, c3, rfl⟩ : ∃ A c, v = .slice A (findF z y.name).1.length c := rds_slice hs .row
    replace hs := hs.sbl (.cons (.tl (.tl .hd)) (.cons (.tl (.tl .hd)) .all))
    repeat (first
     | (with_reducible (first | refine st_lens ?_ | refine st_eqls ?_ | refine st_nels ?_ | refine tk_eqls ?_ | refine tk_nels ?_ | refine mv.mk ?_ | refine nk_p ?_ | refine gdT_i ?_ | refine gdT_ft ?_ | refine gdT_tf ?_ | refine gdT_u ?_ | refine gd_u ?_ | refine gd_ft ?_ | refine gd_tf ?_ | refine gd_i ?_ | refine pk_t ?_ | refine pk_f ?_ | refine br_t ?_ | refine br_f ?_ | refine sp_boxa hs fun g w hs => ?_))
     | (with_reducible ((first | apply st_bin | apply st_ext | apply st_len | apply st_un | apply st_conv | apply st_mki | apply st_fld | apply st_cap | apply st_max | apply st_min | apply st_ixv | apply st_mkf); intro k' hk; simp [go_sem, thenR_ok, bin]; refine hk _ _ ?_; clear hk k'))
     | ((with_reducible (first | apply tk_bin | apply tk_ext | apply tk_len | apply tk_un)); (· intro w; simp [go_sem, bin]; rfl))
     | ((with_reducible apply sp_newr hs); (· kernel_rfl); intro g w hs))
    refine st_of (hix .i64 w) ?_
    refine sp_ldx hs (.tl (.tl (.tl (.tl (.tl (.tl .rng)))))) (by kernel_rfl) ?_
    refine cl (files_Safe (name := y.name) hs (by omega)) ?_
    rintro _ w ⟨e2, rfl, hs⟩
    repeat (first
     | (with_reducible (first | refine st_lens ?_ | refine st_eqls ?_ | refine st_nels ?_ | refine tk_eqls ?_ | refine tk_nels ?_ | refine mv.mk ?_ | refine nk_p ?_ | refine gdT_i ?_ | refine gdT_ft ?_ | refine gdT_tf ?_ | refine gdT_u ?_ | refine gd_u ?_ | refine gd_ft ?_ | refine gd_tf ?_ | refine gd_i ?_ | refine pk_t ?_ | refine pk_f ?_ | refine br_t ?_ | refine br_f ?_ | refine sp_boxa hs fun g w hs => ?_))
     | (with_reducible ((first | apply st_bin | apply st_ext | apply st_len | apply st_un | apply st_conv | apply st_mki | apply st_fld | apply st_cap | apply st_max | apply st_min | apply st_ixv | apply st_mkf); intro k' hk; simp [go_sem, thenR_ok, bin]; refine hk _ _ ?_; clear hk k'))
     | ((with_reducible (first | apply tk_bin | apply tk_ext | apply tk_len | apply tk_un)); (· intro w; simp [go_sem, bin]; rfl))
     | ((with_reducible apply sp_newr hs); (· kernel_rfl); intro g w hs))
    replace hs := hs.drew
    refine dr_can (R := [(rngF g2 o2 (rfV y)).it, blkI g3 T.isthmusref04_FS (rfsV r (.slice A r.l.length c))]) hs (.drop (.drop (.drop (.drop (.drop (.cons .hd (.drop (.drop (.drop (.cons .hd .nil)))))))))) ?_
    have hS : ∀ w, Mayr [(rngF g2 o2 (rfV y)).it, blkI g3 T.isthmusref04_FS (rfsV r (.slice A r.l.length c))] w → Mayr [(rngF g2 o2 (rfV y)).it, blkI g3 T.isthmusref04_FS (rfsV r (.slice A r.l.length c))] w := fun _ h => h
    refine tk_ldn hid (.tl .blk) (by kernel_rfl) rfl ?_
    repeat (first
     | (with_reducible refine rfs.a0 ?_)
     | ((with_reducible apply rfs.r0 hs); (· (with_reducible (repeat (first | exact .blk | exact .rng | apply Rng.tl)))))
     | (with_reducible refine rfs.c0 ?_)
     | ((with_reducible apply rfs.e0); (· first | exact hS | exact hid); (· (with_reducible (repeat (first | exact .blk | exact .rng | apply Rng.tl)))))
     | (with_reducible refine rfs.a1 ?_)
     | ((with_reducible apply rfs.r1 hs); (· (with_reducible (repeat (first | exact .blk | exact .rng | apply Rng.tl)))))
     | (with_reducible refine rfs.c1 ?_)
     | ((with_reducible apply rfs.e1); (· first | exact hS | exact hid); (· (with_reducible (repeat (first | exact .blk | exact .rng | apply Rng.tl)))))
     | (with_reducible refine rfs.a2 ?_)
     | ((with_reducible apply rfs.r2 hs); (· (with_reducible (repeat (first | exact .blk | exact .rng | apply Rng.tl)))))
     | (with_reducible refine rfs.c2 ?_)
     | ((with_reducible apply rfs.e2); (· first | exact hS | exact hid); (· (with_reducible (repeat (first | exact .blk | exact .rng | apply Rng.tl)))))
     | (with_reducible refine rfs.a3 ?_)
     | ((with_reducible apply rfs.r3 hs); (· (with_reducible (repeat (first | exact .blk | exact .rng | apply Rng.tl)))))
     | (with_reducible refine rfs.c3 ?_)
     | ((with_reducible apply rfs.e3); (· first | exact hS | exact hid); (· (with_reducible (repeat (first | exact .blk | exact .rng | apply Rng.tl)))))
     | (with_reducible refine rfs.a4 ?_)
     | ((with_reducible apply rfs.r4 hs); (· (with_reducible (repeat (first | exact .blk | exact .rng | apply Rng.tl)))))
     | (with_reducible refine rfs.c4 ?_)
     | ((with_reducible apply rfs.e4); (· first | exact hS | exact hid); (· (with_reducible (repeat (first | exact .blk | exact .rng | apply Rng.tl)))))
     | (with_reducible (first | refine st_lens ?_ | refine st_eqls ?_ | refine st_nels ?_ | refine tk_eqls ?_ | refine tk_nels ?_ | refine mv.mk ?_ | refine nk_p ?_ | refine gdT_i ?_ | refine gdT_ft ?_ | refine gdT_tf ?_ | refine gdT_u ?_ | refine gd_u ?_ | refine gd_ft ?_ | refine gd_tf ?_ | refine gd_i ?_ | refine pk_t ?_ | refine pk_f ?_ | refine br_t ?_ | refine br_f ?_ | refine sp_boxa hs fun g w hs => ?_))
     | (with_reducible ((first | apply st_bin | apply st_ext | apply st_len | apply st_un | apply st_conv | apply st_mki | apply st_fld | apply st_cap | apply st_max | apply st_min | apply st_ixv | apply st_mkf); intro k' hk; simp [go_sem, thenR_ok, bin]; refine hk _ _ ?_; clear hk k'))
     | ((with_reducible (first | apply tk_bin | apply tk_ext | apply tk_len | apply tk_un)); (· intro w; simp [go_sem, bin]; rfl))
     | ((with_reducible apply sp_newr hs); (· kernel_rfl); intro g w hs))
    refine tk_run (hix2 .i64) ?_
    repeat (first
     | (with_reducible refine rfs.a0 ?_)
     | ((with_reducible apply rfs.r0 hs); (· (with_reducible (repeat (first | exact .blk | exact .rng | apply Rng.tl)))))
     | (with_reducible refine rfs.c0 ?_)
     | ((with_reducible apply rfs.e0); (· first | exact hS | exact hid); (· (with_reducible (repeat (first | exact .blk | exact .rng | apply Rng.tl)))))
     | (with_reducible refine rfs.a1 ?_)
     | ((with_reducible apply rfs.r1 hs); (· (with_reducible (repeat (first | exact .blk | exact .rng | apply Rng.tl)))))
     | (with_reducible refine rfs.c1 ?_)
     | ((with_reducible apply rfs.e1); (· first | exact hS | exact hid); (· (with_reducible (repeat (first | exact .blk | exact .rng | apply Rng.tl)))))
     | (with_reducible refine rfs.a2 ?_)
     | ((with_reducible apply rfs.r2 hs); (· (with_reducible (repeat (first | exact .blk | exact .rng | apply Rng.tl)))))
     | (with_reducible refine rfs.c2 ?_)
     | ((with_reducible apply rfs.e2); (· first | exact hS | exact hid); (· (with_reducible (repeat (first | exact .blk | exact .rng | apply Rng.tl)))))
     | (with_reducible refine rfs.a3 ?_)
     | ((with_reducible apply rfs.r3 hs); (· (with_reducible (repeat (first | exact .blk | exact .rng | apply Rng.tl)))))
     | (with_reducible refine rfs.c3 ?_)
     | ((with_reducible apply rfs.e3); (· first | exact hS | exact hid); (· (with_reducible (repeat (first | exact .blk | exact .rng | apply Rng.tl)))))
     | (with_reducible refine rfs.a4 ?_)
     | ((with_reducible apply rfs.r4 hs); (· (with_reducible (repeat (first | exact .blk | exact .rng | apply Rng.tl)))))
     | (with_reducible refine rfs.c4 ?_)
     | ((with_reducible apply rfs.e4); (· first | exact hS | exact hid); (· (with_reducible (repeat (first | exact .blk | exact .rng | apply Rng.tl)))))
     | (with_reducible refine rfile.a0 ?_)
     | ((with_reducible apply rfile.r0 hs); (· (with_reducible (repeat (first | exact .blk | exact .rng | apply Rng.tl)))))
     | (with_reducible refine rfile.c0 ?_)
     | ((with_reducible apply rfile.e0); (· first | exact hS | exact hid); (· (with_reducible (repeat (first | exact .blk | exact .rng | apply Rng.tl)))))
     | (with_reducible refine rfile.a1 ?_)
     | ((with_reducible apply rfile.r1 hs); (· (with_reducible (repeat (first | exact .blk | exact .rng | apply Rng.tl)))))
     | (with_reducible refine rfile.c1 ?_)
     | ((with_reducible apply rfile.e1); (· first | exact hS | exact hid); (· (with_reducible (repeat (first | exact .blk | exact .rng | apply Rng.tl)))))
     | (with_reducible refine rfile.a2 ?_)
     | ((with_reducible apply rfile.r2 hs); (· (with_reducible (repeat (first | exact .blk | exact .rng | apply Rng.tl)))))
     | (with_reducible refine rfile.c2 ?_)
     | ((with_reducible apply rfile.e2); (· first | exact hS | exact hid); (· (with_reducible (repeat (first | exact .blk | exact .rng | apply Rng.tl)))))
     | (with_reducible (first | refine st_lens ?_ | refine st_eqls ?_ | refine st_nels ?_ | refine tk_eqls ?_ | refine tk_nels ?_ | refine mv.mk ?_ | refine nk_p ?_ | refine gdT_i ?_ | refine gdT_ft ?_ | refine gdT_tf ?_ | refine gdT_u ?_ | refine gd_u ?_ | refine gd_ft ?_ | refine gd_tf ?_ | refine gd_i ?_ | refine pk_t ?_ | refine pk_f ?_ | refine br_t ?_ | refine br_f ?_ | refine sp_boxa hs fun g w hs => ?_))
     | (with_reducible ((first | apply st_bin | apply st_ext | apply st_len | apply st_un | apply st_conv | apply st_mki | apply st_fld | apply st_cap | apply st_max | apply st_min | apply st_ixv | apply st_mkf); intro k' hk; simp [go_sem, thenR_ok, bin]; refine hk _ _ ?_; clear hk k'))
     | ((with_reducible (first | apply tk_bin | apply tk_ext | apply tk_len | apply tk_un)); (· intro w; simp [go_sem, bin]; rfl))
     | ((with_reducible apply sp_newr hs); (· kernel_rfl); intro g w hs))
    replace hs := rfs_fact hs (.tl (.tl (.tl (.tl (.tl (.tl (.tl (.tl (.tl (.tl (.tl .hd)))))))))))
    refine cl (isthmusref04_Read (n := y.name) hs .hd hok (by omega)) ?_
    rintro _ w ⟨rfl, hs⟩
    refine ⟨hs.mayr (.drop (.drop (.drop (.drop (.drop (.drop (.cons .hd (.drop (.drop (.drop (.cons .hd .nil))))))))))), ?_⟩
    clear hS
    repeat (first
     | (with_reducible (first | refine st_lens ?_ | refine st_eqls ?_ | refine st_nels ?_ | refine tk_eqls ?_ | refine tk_nels ?_ | refine mv.mk ?_ | refine nk_p ?_ | refine gdT_i ?_ | refine gdT_ft ?_ | refine gdT_tf ?_ | refine gdT_u ?_ | refine gd_u ?_ | refine gd_ft ?_ | refine gd_tf ?_ | refine gd_i ?_ | refine pk_t ?_ | refine pk_f ?_ | refine br_t ?_ | refine br_f ?_ | refine sp_boxa hs fun g w hs => ?_))
     | (with_reducible ((first | apply st_bin | apply st_ext | apply st_len | apply st_un | apply st_conv | apply st_mki | apply st_fld | apply st_cap | apply st_max | apply st_min | apply st_ixv | apply st_mkf); intro k' hk; simp [go_sem, thenR_ok, bin]; refine hk _ _ ?_; clear hk k'))
     | ((with_reducible (first | apply tk_bin | apply tk_ext | apply tk_len | apply tk_un)); (· intro w; simp [go_sem, bin]; rfl))
     | ((with_reducible apply sp_newr hs); (· kernel_rfl); intro g w hs))
    replace hs := hs.drew
    refine dr_can (R := [(rngF g2 o2 (rfV y)).it, (rngF g1 o1 [str y.name]).it, blkI g3 T.isthmusref04_FS (rfsV r (.slice A r.l.length c))]) hs (.drop (.drop (.drop (.drop (.drop (.drop (.cons .hd (.drop (.cons .hd (.drop (.cons .hd .nil))))))))))) ?_
    have hS : ∀ w, Mayr [(rngF g2 o2 (rfV y)).it, (rngF g1 o1 [str y.name]).it, blkI g3 T.isthmusref04_FS (rfsV r (.slice A r.l.length c))] w → Mayr [(rngF g2 o2 (rfV y)).it, (rngF g1 o1 [str y.name]).it, blkI g3 T.isthmusref04_FS (rfsV r (.slice A r.l.length c))] w := fun _ h => h
    repeat with_reducible refine mv.mk ?_
    refine tk_run (hix .i64) ?_
    refine tk_ldx hid (.tl .rng) (by kernel_rfl) ?_
    repeat (first
     | (with_reducible refine rfs.a0 ?_)
     | ((with_reducible apply rfs.r0 hs); (· (with_reducible (repeat (first | exact .blk | exact .rng | apply Rng.tl)))))
     | (with_reducible refine rfs.c0 ?_)
     | ((with_reducible apply rfs.e0); (· first | exact hS | exact hid); (· (with_reducible (repeat (first | exact .blk | exact .rng | apply Rng.tl)))))
     | (with_reducible refine rfs.a1 ?_)
     | ((with_reducible apply rfs.r1 hs); (· (with_reducible (repeat (first | exact .blk | exact .rng | apply Rng.tl)))))
     | (with_reducible refine rfs.c1 ?_)
     | ((with_reducible apply rfs.e1); (· first | exact hS | exact hid); (· (with_reducible (repeat (first | exact .blk | exact .rng | apply Rng.tl)))))
     | (with_reducible refine rfs.a2 ?_)
     | ((with_reducible apply rfs.r2 hs); (· (with_reducible (repeat (first | exact .blk | exact .rng | apply Rng.tl)))))
     | (with_reducible refine rfs.c2 ?_)
     | ((with_reducible apply rfs.e2); (· first | exact hS | exact hid); (· (with_reducible (repeat (first | exact .blk | exact .rng | apply Rng.tl)))))
     | (with_reducible refine rfs.a3 ?_)
     | ((with_reducible apply rfs.r3 hs); (· (with_reducible (repeat (first | exact .blk | exact .rng | apply Rng.tl)))))
     | (with_reducible refine rfs.c3 ?_)
     | ((with_reducible apply rfs.e3); (· first | exact hS | exact hid); (· (with_reducible (repeat (first | exact .blk | exact .rng | apply Rng.tl)))))
     | (with_reducible refine rfs.a4 ?_)
     | ((with_reducible apply rfs.r4 hs); (· (with_reducible (repeat (first | exact .blk | exact .rng | apply Rng.tl)))))
     | (with_reducible refine rfs.c4 ?_)
     | ((with_reducible apply rfs.e4); (· first | exact hS | exact hid); (· (with_reducible (repeat (first | exact .blk | exact .rng | apply Rng.tl)))))
     | (with_reducible (first | refine st_lens ?_ | refine st_eqls ?_ | refine st_nels ?_ | refine tk_eqls ?_ | refine tk_nels ?_ | refine mv.mk ?_ | refine nk_p ?_ | refine gdT_i ?_ | refine gdT_ft ?_ | refine gdT_tf ?_ | refine gdT_u ?_ | refine gd_u ?_ | refine gd_ft ?_ | refine gd_tf ?_ | refine gd_i ?_ | refine pk_t ?_ | refine pk_f ?_ | refine br_t ?_ | refine br_f ?_ | refine sp_boxa hs fun g w hs => ?_))
     | (with_reducible ((first | apply st_bin | apply st_ext | apply st_len | apply st_un | apply st_conv | apply st_mki | apply st_fld | apply st_cap | apply st_max | apply st_min | apply st_ixv | apply st_mkf); intro k' hk; simp [go_sem, thenR_ok, bin]; refine hk _ _ ?_; clear hk k'))
     | ((with_reducible (first | apply tk_bin | apply tk_ext | apply tk_len | apply tk_un)); (· intro w; simp [go_sem, bin]; rfl))
     | ((with_reducible apply sp_newr hs); (· kernel_rfl); intro g w hs))
    refine tk_run (hix2 .i64) ?_
    repeat (first
     | (with_reducible refine rfs.a0 ?_)
     | ((with_reducible apply rfs.r0 hs); (· (with_reducible (repeat (first | exact .blk | exact .rng | apply Rng.tl)))))
     | (with_reducible refine rfs.c0 ?_)
     | ((with_reducible apply rfs.e0); (· first | exact hS | exact hid); (· (with_reducible (repeat (first | exact .blk | exact .rng | apply Rng.tl)))))
     | (with_reducible refine rfs.a1 ?_)
     | ((with_reducible apply rfs.r1 hs); (· (with_reducible (repeat (first | exact .blk | exact .rng | apply Rng.tl)))))
     | (with_reducible refine rfs.c1 ?_)
     | ((with_reducible apply rfs.e1); (· first | exact hS | exact hid); (· (with_reducible (repeat (first | exact .blk | exact .rng | apply Rng.tl)))))
     | (with_reducible refine rfs.a2 ?_)
     | ((with_reducible apply rfs.r2 hs); (· (with_reducible (repeat (first | exact .blk | exact .rng | apply Rng.tl)))))
     | (with_reducible refine rfs.c2 ?_)
     | ((with_reducible apply rfs.e2); (· first | exact hS | exact hid); (· (with_reducible (repeat (first | exact .blk | exact .rng | apply Rng.tl)))))
     | (with_reducible refine rfs.a3 ?_)
     | ((with_reducible apply rfs.r3 hs); (· (with_reducible (repeat (first | exact .blk | exact .rng | apply Rng.tl)))))
     | (with_reducible refine rfs.c3 ?_)
     | ((with_reducible apply rfs.e3); (· first | exact hS | exact hid); (· (with_reducible (repeat (first | exact .blk | exact .rng | apply Rng.tl)))))
     | (with_reducible refine rfs.a4 ?_)
     | ((with_reducible apply rfs.r4 hs); (· (with_reducible (repeat (first | exact .blk | exact .rng | apply Rng.tl)))))
     | (with_reducible refine rfs.c4 ?_)
     | ((with_reducible apply rfs.e4); (· first | exact hS | exact hid); (· (with_reducible (repeat (first | exact .blk | exact .rng | apply Rng.tl)))))
     | (with_reducible refine rfile.a0 ?_)
     | ((with_reducible apply rfile.r0 hs); (· (with_reducible (repeat (first | exact .blk | exact .rng | apply Rng.tl)))))
     | (with_reducible refine rfile.c0 ?_)
     | ((with_reducible apply rfile.e0); (· first | exact hS | exact hid); (· (with_reducible (repeat (first | exact .blk | exact .rng | apply Rng.tl)))))
     | (with_reducible refine rfile.a1 ?_)
     | ((with_reducible apply rfile.r1 hs); (· (with_reducible (repeat (first | exact .blk | exact .rng | apply Rng.tl)))))
     | (with_reducible refine rfile.c1 ?_)
     | ((with_reducible apply rfile.e1); (· first | exact hS | exact hid); (· (with_reducible (repeat (first | exact .blk | exact .rng | apply Rng.tl)))))
     | (with_reducible refine rfile.a2 ?_)
     | ((with_reducible apply rfile.r2 hs); (· (with_reducible (repeat (first | exact .blk | exact .rng | apply Rng.tl)))))
     | (with_reducible refine rfile.c2 ?_)
     | ((with_reducible apply rfile.e2); (· first | exact hS | exact hid); (· (with_reducible (repeat (first | exact .blk | exact .rng | apply Rng.tl)))))
     | (with_reducible (first | refine st_lens ?_ | refine st_eqls ?_ | refine st_nels ?_ | refine tk_eqls ?_ | refine tk_nels ?_ | refine mv.mk ?_ | refine nk_p ?_ | refine gdT_i ?_ | refine gdT_ft ?_ | refine gdT_tf ?_ | refine gdT_u ?_ | refine gd_u ?_ | refine gd_ft ?_ | refine gd_tf ?_ | refine gd_i ?_ | refine pk_t ?_ | refine pk_f ?_ | refine br_t ?_ | refine br_f ?_ | refine sp_boxa hs fun g w hs => ?_))
     | (with_reducible ((first | apply st_bin | apply st_ext | apply st_len | apply st_un | apply st_conv | apply st_mki | apply st_fld | apply st_cap | apply st_max | apply st_min | apply st_ixv | apply st_mkf); intro k' hk; simp [go_sem, thenR_ok, bin]; refine hk _ _ ?_; clear hk k'))
     | ((with_reducible (first | apply tk_bin | apply tk_ext | apply tk_len | apply tk_un)); (· intro w; simp [go_sem, bin]; rfl))
     | ((with_reducible apply sp_newr hs); (· kernel_rfl); intro g w hs))
    rw [show (!decide (y.name = y.name)) = false by simp, hat1]
    repeat (first
     | (with_reducible (first | refine st_lens ?_ | refine st_eqls ?_ | refine st_nels ?_ | refine tk_eqls ?_ | refine tk_nels ?_ | refine mv.mk ?_ | refine nk_p ?_ | refine gdT_i ?_ | refine gdT_ft ?_ | refine gdT_tf ?_ | refine gdT_u ?_ | refine gd_u ?_ | refine gd_ft ?_ | refine gd_tf ?_ | refine gd_i ?_ | refine pk_t ?_ | refine pk_f ?_ | refine br_t ?_ | refine br_f ?_ | refine sp_boxa hs fun g w hs => ?_))
     | (with_reducible ((first | apply st_bin | apply st_ext | apply st_len | apply st_un | apply st_conv | apply st_mki | apply st_fld | apply st_cap | apply st_max | apply st_min | apply st_ixv | apply st_mkf); intro k' hk; simp [go_sem, thenR_ok, bin]; refine hk _ _ ?_; clear hk k'))
     | ((with_reducible (first | apply tk_bin | apply tk_ext | apply tk_len | apply tk_un)); (· intro w; simp [go_sem, bin]; rfl))
     | ((with_reducible apply sp_newr hs); (· kernel_rfl); intro g w hs))
    refine cl (isthmuslaw04_num hs (.tl (.tl (.tl (.tl (.tl (.tl (.tl (.tl (.tl (.tl (.tl (.tl (.tl hT))))))))))))) (.tl (.tl (.tl (.tl (.tl .hd)))))) ?_
    rintro _ w ⟨rfl, hs⟩
    refine ⟨hs.mayr (.drop (.drop (.drop (.drop (.drop (.drop (.cons .hd (.drop (.cons .hd (.drop (.cons .hd .nil))))))))))), ?_⟩
    repeat (first
     | (with_reducible (first | refine st_lens ?_ | refine st_eqls ?_ | refine st_nels ?_ | refine tk_eqls ?_ | refine tk_nels ?_ | refine mv.mk ?_ | refine nk_p ?_ | refine gdT_i ?_ | refine gdT_ft ?_ | refine gdT_tf ?_ | refine gdT_u ?_ | refine gd_u ?_ | refine gd_ft ?_ | refine gd_tf ?_ | refine gd_i ?_ | refine pk_t ?_ | refine pk_f ?_ | refine br_t ?_ | refine br_f ?_ | refine sp_boxa hs fun g w hs => ?_))
     | (with_reducible ((first | apply st_bin | apply st_ext | apply st_len | apply st_un | apply st_conv | apply st_mki | apply st_fld | apply st_cap | apply st_max | apply st_min | apply st_ixv | apply st_mkf); intro k' hk; simp [go_sem, thenR_ok, bin]; refine hk _ _ ?_; clear hk k'))
     | ((with_reducible (first | apply tk_bin | apply tk_ext | apply tk_len | apply tk_un)); (· intro w; simp [go_sem, bin]; rfl))
     | ((with_reducible apply sp_newr hs); (· kernel_rfl); intro g w hs))
    refine cl (isthmuslaw04_num hs (.tl (.tl (.tl (.tl (.tl (.tl (.tl (.tl (.tl (.tl (.tl (.tl (.tl hT))))))))))))) (.tl .hd)) ?_
    rintro _ w ⟨rfl, hs⟩
    refine ⟨hs.mayr (.drop (.drop (.drop (.drop (.drop (.drop (.cons .hd (.drop (.cons .hd (.drop (.cons .hd .nil))))))))))), ?_⟩
    repeat (first
     | (with_reducible (first | refine st_lens ?_ | refine st_eqls ?_ | refine st_nels ?_ | refine tk_eqls ?_ | refine tk_nels ?_ | refine mv.mk ?_ | refine nk_p ?_ | refine gdT_i ?_ | refine gdT_ft ?_ | refine gdT_tf ?_ | refine gdT_u ?_ | refine gd_u ?_ | refine gd_ft ?_ | refine gd_tf ?_ | refine gd_i ?_ | refine pk_t ?_ | refine pk_f ?_ | refine br_t ?_ | refine br_f ?_ | refine sp_boxa hs fun g w hs => ?_))
     | (with_reducible ((first | apply st_bin | apply st_ext | apply st_len | apply st_un | apply st_conv | apply st_mki | apply st_fld | apply st_cap | apply st_max | apply st_min | apply st_ixv | apply st_mkf); intro k' hk; simp [go_sem, thenR_ok, bin]; refine hk _ _ ?_; clear hk k'))
     | ((with_reducible (first | apply tk_bin | apply tk_ext | apply tk_len | apply tk_un)); (· intro w; simp [go_sem, bin]; rfl))
     | ((with_reducible apply sp_newr hs); (· kernel_rfl); intro g w hs))
    by_cases h0 : findE z y.name = 0
    · obtain ⟨hb1, hb2⟩ := hat2 h0
      rw [h0, show ((0 : Int) == 0) = true from rfl]
      repeat (first
       | (with_reducible (first | refine st_lens ?_ | refine st_eqls ?_ | refine st_nels ?_ | refine tk_eqls ?_ | refine tk_nels ?_ | refine mv.mk ?_ | refine nk_p ?_ | refine gdT_i ?_ | refine gdT_ft ?_ | refine gdT_tf ?_ | refine gdT_u ?_ | refine gd_u ?_ | refine gd_ft ?_ | refine gd_tf ?_ | refine gd_i ?_ | refine pk_t ?_ | refine pk_f ?_ | refine br_t ?_ | refine br_f ?_ | refine sp_boxa hs fun g w hs => ?_))
       | (with_reducible ((first | apply st_bin | apply st_ext | apply st_len | apply st_un | apply st_conv | apply st_mki | apply st_fld | apply st_cap | apply st_max | apply st_min | apply st_ixv | apply st_mkf); intro k' hk; simp [go_sem, thenR_ok, bin]; refine hk _ _ ?_; clear hk k'))
       | ((with_reducible (first | apply tk_bin | apply tk_ext | apply tk_len | apply tk_un)); (· intro w; simp [go_sem, bin]; rfl))
       | ((with_reducible apply sp_newr hs); (· kernel_rfl); intro g w hs))
      refine nS_can (R := [rowI (.slice A3 (findF z y.name).1.length c3) T.uint8 1 (findF z y.name).1.length (u8s (findF z y.name).1), (rngF g2 o2 (rfV y)).it, (rngF g1 o1 [str y.name]).it, blkI g3 T.isthmusref04_FS (rfsV r (.slice A r.l.length c))]) hs (.drop (.drop (.drop (.drop (.cons .hd (.drop (.cons .hd (.drop (.cons .hd (.drop (.cons .hd .nil))))))))))) (.drop .all) ?_
      repeat (first
       | (with_reducible (first | refine st_lens ?_ | refine st_eqls ?_ | refine st_nels ?_ | refine tk_eqls ?_ | refine tk_nels ?_ | refine mv.mk ?_ | refine nk_p ?_ | refine gdT_i ?_ | refine gdT_ft ?_ | refine gdT_tf ?_ | refine gdT_u ?_ | refine gd_u ?_ | refine gd_ft ?_ | refine gd_tf ?_ | refine gd_i ?_ | refine pk_t ?_ | refine pk_f ?_ | refine br_t ?_ | refine br_f ?_ | refine sp_boxa hs fun g w hs => ?_))
       | (with_reducible ((first | apply st_bin | apply st_ext | apply st_len | apply st_un | apply st_conv | apply st_mki | apply st_fld | apply st_cap | apply st_max | apply st_min | apply st_ixv | apply st_mkf); intro k' hk; simp [go_sem, thenR_ok, bin]; refine hk _ _ ?_; clear hk k'))
       | ((with_reducible (first | apply tk_bin | apply tk_ext | apply tk_len | apply tk_un)); (· intro w; simp [go_sem, bin]; rfl))
       | ((with_reducible apply sp_newr hs); (· kernel_rfl); intro g w hs))
      refine tk_text (n := (findF z y.name).1.length) hid .row ?_
      repeat (first
       | (with_reducible (first | refine st_lens ?_ | refine st_eqls ?_ | refine st_nels ?_ | refine tk_eqls ?_ | refine tk_nels ?_ | refine mv.mk ?_ | refine nk_p ?_ | refine gdT_i ?_ | refine gdT_ft ?_ | refine gdT_tf ?_ | refine gdT_u ?_ | refine gd_u ?_ | refine gd_ft ?_ | refine gd_tf ?_ | refine gd_i ?_ | refine pk_t ?_ | refine pk_f ?_ | refine br_t ?_ | refine br_f ?_ | refine sp_boxa hs fun g w hs => ?_))
       | (with_reducible ((first | apply st_bin | apply st_ext | apply st_len | apply st_un | apply st_conv | apply st_mki | apply st_fld | apply st_cap | apply st_max | apply st_min | apply st_ixv | apply st_mkf); intro k' hk; simp [go_sem, thenR_ok, bin]; refine hk _ _ ?_; clear hk k'))
       | ((with_reducible (first | apply tk_bin | apply tk_ext | apply tk_len | apply tk_un)); (· intro w; simp [go_sem, bin]; rfl))
       | ((with_reducible apply sp_newr hs); (· kernel_rfl); intro g w hs))
      rw [hb1, hb2]
      repeat (first
       | (with_reducible (first | refine st_lens ?_ | refine st_eqls ?_ | refine st_nels ?_ | refine tk_eqls ?_ | refine tk_nels ?_ | refine mv.mk ?_ | refine nk_p ?_ | refine gdT_i ?_ | refine gdT_ft ?_ | refine gdT_tf ?_ | refine gdT_u ?_ | refine gd_u ?_ | refine gd_ft ?_ | refine gd_tf ?_ | refine gd_i ?_ | refine pk_t ?_ | refine pk_f ?_ | refine br_t ?_ | refine br_f ?_ | refine sp_boxa hs fun g w hs => ?_))
       | (with_reducible ((first | apply st_bin | apply st_ext | apply st_len | apply st_un | apply st_conv | apply st_mki | apply st_fld | apply st_cap | apply st_max | apply st_min | apply st_ixv | apply st_mkf); intro k' hk; simp [go_sem, thenR_ok, bin]; refine hk _ _ ?_; clear hk k'))
       | ((with_reducible (first | apply tk_bin | apply tk_ext | apply tk_len | apply tk_un)); (· intro w; simp [go_sem, bin]; rfl))
       | ((with_reducible apply sp_newr hs); (· kernel_rfl); intro g w hs))
      rw [show (!decide ((findF z y.name).1 = (findF z y.name).1)) = false by simp]
      repeat (first
       | (with_reducible (first | refine st_lens ?_ | refine st_eqls ?_ | refine st_nels ?_ | refine tk_eqls ?_ | refine tk_nels ?_ | refine mv.mk ?_ | refine nk_p ?_ | refine gdT_i ?_ | refine gdT_ft ?_ | refine gdT_tf ?_ | refine gdT_u ?_ | refine gd_u ?_ | refine gd_ft ?_ | refine gd_tf ?_ | refine gd_i ?_ | refine pk_t ?_ | refine pk_f ?_ | refine br_t ?_ | refine br_f ?_ | refine sp_boxa hs fun g w hs => ?_))
       | (with_reducible ((first | apply st_bin | apply st_ext | apply st_len | apply st_un | apply st_conv | apply st_mki | apply st_fld | apply st_cap | apply st_max | apply st_min | apply st_ixv | apply st_mkf); intro k' hk; simp [go_sem, thenR_ok, bin]; refine hk _ _ ?_; clear hk k'))
       | ((with_reducible (first | apply tk_bin | apply tk_ext | apply tk_len | apply tk_un)); (· intro w; simp [go_sem, bin]; rfl))
       | ((with_reducible apply sp_newr hs); (· kernel_rfl); intro g w hs))
      refine over_loop (ch := 63) (hs.sbl (L' := rowI (.slice A3 (findF z y.name).1.length c3) T.uint8 1 (findF z y.name).1.length (u8s (findF z y.name).1) :: blkI gf T.files_FS (fsV gm z) :: mapI fileF gm z.m :: blkI g3 T.isthmusref04_FS (rfsV r (.slice A r.l.length c)) :: (listF nameF 1 (.slice A1 (r.l.map (·.name)).length c1) (r.l.map (·.name))).it :: (listF rfF 3 (.slice A r.l.length c) r.l).it :: L) (.cons (.tl (.tl (.tl (.tl .hd)))) (.drop (.drop (.cons .hd (.cons .hd (.drop (.drop (.drop (.drop (.drop (.cons .hd (.cons .hd (.cons .hd .all)))))))))))))) (by omega) fun v w hs => ?_
      repeat (first
       | (with_reducible (first | refine st_lens ?_ | refine st_eqls ?_ | refine st_nels ?_ | refine tk_eqls ?_ | refine tk_nels ?_ | refine mv.mk ?_ | refine nk_p ?_ | refine gdT_i ?_ | refine gdT_ft ?_ | refine gdT_tf ?_ | refine gdT_u ?_ | refine gd_u ?_ | refine gd_ft ?_ | refine gd_tf ?_ | refine gd_i ?_ | refine pk_t ?_ | refine pk_f ?_ | refine br_t ?_ | refine br_f ?_ | refine sp_boxa hs fun g w hs => ?_))
       | (with_reducible ((first | apply st_bin | apply st_ext | apply st_len | apply st_un | apply st_conv | apply st_mki | apply st_fld | apply st_cap | apply st_max | apply st_min | apply st_ixv | apply st_mkf); intro k' hk; simp [go_sem, thenR_ok, bin]; refine hk _ _ ?_; clear hk k'))
       | ((with_reducible (first | apply tk_bin | apply tk_ext | apply tk_len | apply tk_un)); (· intro w; simp [go_sem, bin]; rfl))
       | ((with_reducible apply sp_newr hs); (· kernel_rfl); intro g w hs))
      rw [i64_succ (by omega)]
      exact ⟨⟨i + 1, _, _, _, _, _, _, _, _, rfl, hi', hs⟩, by simp; omega⟩
    · rw [show (findE z y.name == 0) = false by simpa using h0]
      repeat (first
       | (with_reducible (first | refine st_lens ?_ | refine st_eqls ?_ | refine st_nels ?_ | refine tk_eqls ?_ | refine tk_nels ?_ | refine mv.mk ?_ | refine nk_p ?_ | refine gdT_i ?_ | refine gdT_ft ?_ | refine gdT_tf ?_ | refine gdT_u ?_ | refine gd_u ?_ | refine gd_ft ?_ | refine gd_tf ?_ | refine gd_i ?_ | refine pk_t ?_ | refine pk_f ?_ | refine br_t ?_ | refine br_f ?_ | refine sp_boxa hs fun g w hs => ?_))
       | (with_reducible ((first | apply st_bin | apply st_ext | apply st_len | apply st_un | apply st_conv | apply st_mki | apply st_fld | apply st_cap | apply st_max | apply st_min | apply st_ixv | apply st_mkf); intro k' hk; simp [go_sem, thenR_ok, bin]; refine hk _ _ ?_; clear hk k'))
       | ((with_reducible (first | apply tk_bin | apply tk_ext | apply tk_len | apply tk_un)); (· intro w; simp [go_sem, bin]; rfl))
       | ((with_reducible apply sp_newr hs); (· kernel_rfl); intro g w hs))
      refine nS_can (R := [(rngF g2 o2 (rfV y)).it, (rngF g1 o1 [str y.name]).it, blkI g3 T.isthmusref04_FS (rfsV r (.slice A r.l.length c))]) hs (.drop (.drop (.drop (.drop (.drop (.drop (.cons .hd (.drop (.cons .hd (.drop (.cons .hd .nil))))))))))) .all ?_
      repeat (first
       | (with_reducible (first | refine st_lens ?_ | refine st_eqls ?_ | refine st_nels ?_ | refine tk_eqls ?_ | refine tk_nels ?_ | refine mv.mk ?_ | refine nk_p ?_ | refine gdT_i ?_ | refine gdT_ft ?_ | refine gdT_tf ?_ | refine gdT_u ?_ | refine gd_u ?_ | refine gd_ft ?_ | refine gd_tf ?_ | refine gd_i ?_ | refine pk_t ?_ | refine pk_f ?_ | refine br_t ?_ | refine br_f ?_ | refine sp_boxa hs fun g w hs => ?_))
       | (with_reducible ((first | apply st_bin | apply st_ext | apply st_len | apply st_un | apply st_conv | apply st_mki | apply st_fld | apply st_cap | apply st_max | apply st_min | apply st_ixv | apply st_mkf); intro k' hk; simp [go_sem, thenR_ok, bin]; refine hk _ _ ?_; clear hk k'))
       | ((with_reducible (first | apply tk_bin | apply tk_ext | apply tk_len | apply tk_un)); (· intro w; simp [go_sem, bin]; rfl))
       | ((with_reducible apply sp_newr hs); (· kernel_rfl); intro g w hs))
      refine over_loop (ch := 63) (hs.sbl (L' := rowI (.slice A3 (findF z y.name).1.length c3) T.uint8 1 (findF z y.name).1.length (u8s (findF z y.name).1) :: blkI gf T.files_FS (fsV gm z) :: mapI fileF gm z.m :: blkI g3 T.isthmusref04_FS (rfsV r (.slice A r.l.length c)) :: (listF nameF 1 (.slice A1 (r.l.map (·.name)).length c1) (r.l.map (·.name))).it :: (listF rfF 3 (.slice A r.l.length c) r.l).it :: L) (.cons (.tl (.tl (.tl (.tl .hd)))) (.drop (.drop (.cons .hd (.cons .hd (.drop (.drop (.drop (.drop (.drop (.cons .hd (.cons .hd (.cons .hd .all)))))))))))))) (by omega) fun v w hs => ?_
      repeat (first
       | (with_reducible (first | refine st_lens ?_ | refine st_eqls ?_ | refine st_nels ?_ | refine tk_eqls ?_ | refine tk_nels ?_ | refine mv.mk ?_ | refine nk_p ?_ | refine gdT_i ?_ | refine gdT_ft ?_ | refine gdT_tf ?_ | refine gdT_u ?_ | refine gd_u ?_ | refine gd_ft ?_ | refine gd_tf ?_ | refine gd_i ?_ | refine pk_t ?_ | refine pk_f ?_ | refine br_t ?_ | refine br_f ?_ | refine sp_boxa hs fun g w hs => ?_))
       | (with_reducible ((first | apply st_bin | apply st_ext | apply st_len | apply st_un | apply st_conv | apply st_mki | apply st_fld | apply st_cap | apply st_max | apply st_min | apply st_ixv | apply st_mkf); intro k' hk; simp [go_sem, thenR_ok, bin]; refine hk _ _ ?_; clear hk k'))
       | ((with_reducible (first | apply tk_bin | apply tk_ext | apply tk_len | apply tk_un)); (· intro w; simp [go_sem, bin]; rfl))
       | ((with_reducible apply sp_newr hs); (· kernel_rfl); intro g w hs))
      rw [i64_succ (by omega)]
      exact ⟨⟨i + 1, _, _, _, _, _, _, _, _, rfl, hi', hs⟩, by simp; omega⟩
  · repeat with_reducible refine mv.mk ?_
    exact ⟨rfl, hs.sbl (.cons .hd (.cons .hd (.drop (.drop (.drop .all)))))⟩
end
end Go.Proofs.YtiaiglgfangedaaDoor
