/- pool: PoolBounds. -/
import Derived.Test.YtgagekffmamldaaDoorPJ
set_option linter.unusedVariables false
set_option linter.unusedSimpArgs false
set_option linter.unusedSectionVars false
namespace Go.Proofs.YtgagekffmamldaaDoor
open Go Go.Isk Go.RowKit
set_option maxRecDepth 20000
section
variable {b : Base} {w : World} {L R : List It} {g g3 g8 : Nat} {v sv lv kv bv cv e av : Value} {cs : List Value} {l : List Act8} {s1 s2 s3 : Int}
theorem cv_iu (n : Int) (w : World) : (convert T.int T.uint (.int .i64 n)).run Tryd.prog w = .ok (.int .u64 (IntKind.u64.wrap n)) w := by simp [go_sem]
theorem cv_ui (n : Int) (w : World) : (convert T.uint T.int (.int .u64 n)).run Tryd.prog w = .ok (.int .i64 (IntKind.i64.wrap n)) w := by simp [go_sem]
theorem rem_u {x y : Operand} (n : Int) (m : Int) (hm : m ≠ 0) (w : World) : (bin .rem T.uint x y (.int .u64 n) (.int .u64 m)).run Tryd.prog w = .ok (.int .u64 (n.tmod m)) w := by simp [go_sem, bin, hm]
theorem isthmuslaw18_PoolBounds (hs : Isk.Sep b w L) (hT : Ins L errT.it) (hR : Ins L rndF.it) (hl : Ins L (listF act8F 5 av l).it) (hB8 : ∀ x ∈ l, x.tx.length ≤ 1048576) :
    C Tryd.prog N.isthmuslaw18_PoolBounds #[.agg (size8C (.int .i64 s1) (.int .i64 s2) (.int .i64 s3)).toArray, av] w fun r w' => r = .bool true ∧ Isk.Sep b w' L := by
  obtain ⟨Al, cl', rfl⟩ := hs.lst_len hl.lst
  refine C.isthmuslaw18_PoolBounds ?_
  unfold F.isthmuslaw18_PoolBounds
  refine sp_boxa hs fun g2 w hs => ?_
  have hmm := hs.drew.mayr .all
  have hS : ∀ w', w' = w.drew → Mayr _ w' := fun w' e => e.symm ▸ hmm
  have k1 := mod_pos8 s1 6 (by decide) (by decide)
  have k2 := mod_pos8 s2 40 (by decide) (by decide)
  have k3 := mod_pos8 s3 6 (by decide) (by decide)
  rw [show ((6 : Nat) : Int) = 6 from rfl] at k1 k3
  rw [show ((40 : Nat) : Int) = 40 from rfl] at k2
  repeat (first
   | (with_reducible refine size8.a0 ?_)
   | ((with_reducible apply size8.r0 hs); (· (with_reducible (repeat (first | exact .blk | exact .rng | apply Rng.tl)))))
   | (with_reducible refine size8.c0 ?_)
   | ((with_reducible apply size8.e0); (· first | exact hS | exact hid); (· (with_reducible (repeat (first | exact .blk | exact .rng | apply Rng.tl)))))
   | (with_reducible refine size8.a1 ?_)
   | ((with_reducible apply size8.r1 hs); (· (with_reducible (repeat (first | exact .blk | exact .rng | apply Rng.tl)))))
   | (with_reducible refine size8.c1 ?_)
   | ((with_reducible apply size8.e1); (· first | exact hS | exact hid); (· (with_reducible (repeat (first | exact .blk | exact .rng | apply Rng.tl)))))
   | (with_reducible refine size8.a2 ?_)
   | ((with_reducible apply size8.r2 hs); (· (with_reducible (repeat (first | exact .blk | exact .rng | apply Rng.tl)))))
   | (with_reducible refine size8.c2 ?_)
   | ((with_reducible apply size8.e2); (· first | exact hS | exact hid); (· (with_reducible (repeat (first | exact .blk | exact .rng | apply Rng.tl)))))
   | (with_reducible (first | refine st_lens ?_ | refine st_eqls ?_ | refine st_nels ?_ | refine tk_eqls ?_ | refine tk_nels ?_ | refine mv.mk ?_ | refine nk_p ?_ | refine gdT_i ?_ | refine gdT_ft ?_ | refine gdT_tf ?_ | refine gdT_u ?_ | refine gd_u ?_ | refine gd_ft ?_ | refine gd_tf ?_ | refine gd_i ?_ | refine pk_t ?_ | refine pk_f ?_ | refine br_t ?_ | refine br_f ?_ | refine sp_boxa hs fun g w hs => ?_))
   | (with_reducible ((first | apply st_bin | apply st_ext | apply st_len | apply st_un | apply st_conv | apply st_mki | apply st_fld | apply st_cap | apply st_max | apply st_min | apply st_ixv | apply st_mkf); intro k' hk; simp [go_sem, thenR_ok, bin]; refine hk _ _ ?_; clear hk k'))
   | ((with_reducible (first | apply tk_bin | apply tk_ext | apply tk_len | apply tk_un)); (· intro w; simp [go_sem, bin]; rfl))
   | ((with_reducible apply sp_newr hs); (· kernel_rfl); intro g w hs))
  refine tk_run (cv_iu _) ?_
  refine tk_run (rem_u _ _ (by decide)) ?_
  refine tk_run (cv_ui _) ?_
  generalize IntKind.i64.wrap ((IntKind.u64.wrap s1).tmod 6) = m1 at *
  repeat (first
   | (with_reducible refine size8.a0 ?_)
   | ((with_reducible apply size8.r0 hs); (· (with_reducible (repeat (first | exact .blk | exact .rng | apply Rng.tl)))))
   | (with_reducible refine size8.c0 ?_)
   | ((with_reducible apply size8.e0); (· first | exact hS | exact hid); (· (with_reducible (repeat (first | exact .blk | exact .rng | apply Rng.tl)))))
   | (with_reducible refine size8.a1 ?_)
   | ((with_reducible apply size8.r1 hs); (· (with_reducible (repeat (first | exact .blk | exact .rng | apply Rng.tl)))))
   | (with_reducible refine size8.c1 ?_)
   | ((with_reducible apply size8.e1); (· first | exact hS | exact hid); (· (with_reducible (repeat (first | exact .blk | exact .rng | apply Rng.tl)))))
   | (with_reducible refine size8.a2 ?_)
   | ((with_reducible apply size8.r2 hs); (· (with_reducible (repeat (first | exact .blk | exact .rng | apply Rng.tl)))))
   | (with_reducible refine size8.c2 ?_)
   | ((with_reducible apply size8.e2); (· first | exact hS | exact hid); (· (with_reducible (repeat (first | exact .blk | exact .rng | apply Rng.tl)))))
   | (with_reducible (first | refine st_lens ?_ | refine st_eqls ?_ | refine st_nels ?_ | refine tk_eqls ?_ | refine tk_nels ?_ | refine mv.mk ?_ | refine nk_p ?_ | refine gdT_i ?_ | refine gdT_ft ?_ | refine gdT_tf ?_ | refine gdT_u ?_ | refine gd_u ?_ | refine gd_ft ?_ | refine gd_tf ?_ | refine gd_i ?_ | refine pk_t ?_ | refine pk_f ?_ | refine br_t ?_ | refine br_f ?_ | refine sp_boxa hs fun g w hs => ?_))
   | (with_reducible ((first | apply st_bin | apply st_ext | apply st_len | apply st_un | apply st_conv | apply st_mki | apply st_fld | apply st_cap | apply st_max | apply st_min | apply st_ixv | apply st_mkf); intro k' hk; simp [go_sem, thenR_ok, bin]; refine hk _ _ ?_; clear hk k'))
   | ((with_reducible (first | apply tk_bin | apply tk_ext | apply tk_len | apply tk_un)); (· intro w; simp [go_sem, bin]; rfl))
   | ((with_reducible apply sp_newr hs); (· kernel_rfl); intro g w hs))
  refine tk_run (cv_iu _) ?_
  refine tk_run (rem_u _ _ (by decide)) ?_
  refine tk_run (cv_ui _) ?_
  generalize IntKind.i64.wrap ((IntKind.u64.wrap s2).tmod 40) = m2 at *
  repeat (first
   | (with_reducible refine size8.a0 ?_)
   | ((with_reducible apply size8.r0 hs); (· (with_reducible (repeat (first | exact .blk | exact .rng | apply Rng.tl)))))
   | (with_reducible refine size8.c0 ?_)
   | ((with_reducible apply size8.e0); (· first | exact hS | exact hid); (· (with_reducible (repeat (first | exact .blk | exact .rng | apply Rng.tl)))))
   | (with_reducible refine size8.a1 ?_)
   | ((with_reducible apply size8.r1 hs); (· (with_reducible (repeat (first | exact .blk | exact .rng | apply Rng.tl)))))
   | (with_reducible refine size8.c1 ?_)
   | ((with_reducible apply size8.e1); (· first | exact hS | exact hid); (· (with_reducible (repeat (first | exact .blk | exact .rng | apply Rng.tl)))))
   | (with_reducible refine size8.a2 ?_)
   | ((with_reducible apply size8.r2 hs); (· (with_reducible (repeat (first | exact .blk | exact .rng | apply Rng.tl)))))
   | (with_reducible refine size8.c2 ?_)
   | ((with_reducible apply size8.e2); (· first | exact hS | exact hid); (· (with_reducible (repeat (first | exact .blk | exact .rng | apply Rng.tl)))))
   | (with_reducible (first | refine st_lens ?_ | refine st_eqls ?_ | refine st_nels ?_ | refine tk_eqls ?_ | refine tk_nels ?_ | refine mv.mk ?_ | refine nk_p ?_ | refine gdT_i ?_ | refine gdT_ft ?_ | refine gdT_tf ?_ | refine gdT_u ?_ | refine gd_u ?_ | refine gd_ft ?_ | refine gd_tf ?_ | refine gd_i ?_ | refine pk_t ?_ | refine pk_f ?_ | refine br_t ?_ | refine br_f ?_ | refine sp_boxa hs fun g w hs => ?_))
   | (with_reducible ((first | apply st_bin | apply st_ext | apply st_len | apply st_un | apply st_conv | apply st_mki | apply st_fld | apply st_cap | apply st_max | apply st_min | apply st_ixv | apply st_mkf); intro k' hk; simp [go_sem, thenR_ok, bin]; refine hk _ _ ?_; clear hk k'))
   | ((with_reducible (first | apply tk_bin | apply tk_ext | apply tk_len | apply tk_un)); (· intro w; simp [go_sem, bin]; rfl))
   | ((with_reducible apply sp_newr hs); (· kernel_rfl); intro g w hs))
  replace hs := hs.drew
  repeat (first
   | (with_reducible refine size8.a0 ?_)
   | ((with_reducible apply size8.r0 hs); (· (with_reducible (repeat (first | exact .blk | exact .rng | apply Rng.tl)))))
   | (with_reducible refine size8.c0 ?_)
   | ((with_reducible apply size8.e0); (· first | exact hS | exact hid); (· (with_reducible (repeat (first | exact .blk | exact .rng | apply Rng.tl)))))
   | (with_reducible refine size8.a1 ?_)
   | ((with_reducible apply size8.r1 hs); (· (with_reducible (repeat (first | exact .blk | exact .rng | apply Rng.tl)))))
   | (with_reducible refine size8.c1 ?_)
   | ((with_reducible apply size8.e1); (· first | exact hS | exact hid); (· (with_reducible (repeat (first | exact .blk | exact .rng | apply Rng.tl)))))
   | (with_reducible refine size8.a2 ?_)
   | ((with_reducible apply size8.r2 hs); (· (with_reducible (repeat (first | exact .blk | exact .rng | apply Rng.tl)))))
   | (with_reducible refine size8.c2 ?_)
   | ((with_reducible apply size8.e2); (· first | exact hS | exact hid); (· (with_reducible (repeat (first | exact .blk | exact .rng | apply Rng.tl)))))
   | (with_reducible (first | refine st_lens ?_ | refine st_eqls ?_ | refine st_nels ?_ | refine tk_eqls ?_ | refine tk_nels ?_ | refine mv.mk ?_ | refine nk_p ?_ | refine gdT_i ?_ | refine gdT_ft ?_ | refine gdT_tf ?_ | refine gdT_u ?_ | refine gd_u ?_ | refine gd_ft ?_ | refine gd_tf ?_ | refine gd_i ?_ | refine pk_t ?_ | refine pk_f ?_ | refine br_t ?_ | refine br_f ?_ | refine sp_boxa hs fun g w hs => ?_))
   | (with_reducible ((first | apply st_bin | apply st_ext | apply st_len | apply st_un | apply st_conv | apply st_mki | apply st_fld | apply st_cap | apply st_max | apply st_min | apply st_ixv | apply st_mkf); intro k' hk; simp [go_sem, thenR_ok, bin]; refine hk _ _ ?_; clear hk k'))
   | ((with_reducible (first | apply tk_bin | apply tk_ext | apply tk_len | apply tk_un)); (· intro w; simp [go_sem, bin]; rfl))
   | ((with_reducible apply sp_newr hs); (· kernel_rfl); intro g w hs))
  generalize IntKind.i64.wrap ((IntKind.u64.wrap s3).tmod 6) = m3 at *
  have w1 : IntKind.i64.wrap (1 + m1) = 1 + m1 := by simp [IntKind.wrap, IntKind.signed, IntKind.bits]; omega
  have w2 : IntKind.i64.wrap (1 + m2) = 1 + m2 := by simp [IntKind.wrap, IntKind.signed, IntKind.bits]; omega
  rw [w1, w2]
  generalize hn : 1 + m1 = n at *
  generalize hy : 1 + m2 = y at *
  refine cl (pool_New (t := n) (y := y) (c := m3) (by omega) (by omega) (by omega) hs) ?_
  rintro _ w ⟨g, rfl, hs⟩
  have ok0 := okP_new (t := n) (y := y) (c := m3) (by omega) (by omega) (by omega)
  replace hs := ((hs.nilF nF 1).nilF hashF 32).sbl (L' := (listF hashF 32 (.slice none 0 0) (([] : List (Bytes × Int)).map (·.1))).it :: (listF nF 1 (.slice none 0 0) (([] : List (Bytes × Int)).map (·.2))).it :: blkI g T.pool_Pool (poolV (newP n y m3) (.slice none 0 0) (.slice none 0 0)) :: growI itemF T.pool_item 35 (.slice none 0 0) (newP n y m3).l :: (listF hashF 32 (.slice none 0 0) (newP n y m3).known).it :: L) (.cons .hd (.cons .hd (.cons .hd (.cons .hd (.cons .hd (.drop .all))))))
  repeat (first
   | (with_reducible (first | refine st_lens ?_ | refine st_eqls ?_ | refine st_nels ?_ | refine tk_eqls ?_ | refine tk_nels ?_ | refine mv.mk ?_ | refine nk_p ?_ | refine gdT_i ?_ | refine gdT_ft ?_ | refine gdT_tf ?_ | refine gdT_u ?_ | refine gd_u ?_ | refine gd_ft ?_ | refine gd_tf ?_ | refine gd_i ?_ | refine pk_t ?_ | refine pk_f ?_ | refine br_t ?_ | refine br_f ?_ | refine sp_boxa hs fun g w hs => ?_))
   | (with_reducible ((first | apply st_bin | apply st_ext | apply st_len | apply st_un | apply st_conv | apply st_mki | apply st_fld | apply st_cap | apply st_max | apply st_min | apply st_ixv | apply st_mkf); intro k' hk; simp [go_sem, thenR_ok, bin]; refine hk _ _ ?_; clear hk k'))
   | ((with_reducible (first | apply tk_bin | apply tk_ext | apply tk_len | apply tk_un)); (· intro w; simp [go_sem, bin]; rfl))
   | ((with_reducible apply sp_newr hs); (· kernel_rfl); intro g w hs))
  refine lp_by (fun vs w' => ∃ (i : Nat) (ys : List Value), i ≤ 60 ∧ ∃ (SF : List (Bytes × Int)) (p : PoolD) (fv sv lv kv : Value), vs = .bool false :: fv :: sv :: .int .i64 (i : Int) :: ys ∧ OkP p (i) ∧ p.txs = n ∧ p.bytes = y ∧ BInv p SF ∧ SF.length ≤ i ∧ Isk.Sep b w' ((listF hashF 32 sv (SF.map (·.1))).it :: (listF nF 1 fv (SF.map (·.2))).it :: blkI g T.pool_Pool (poolV p lv kv) :: growI itemF T.pool_item 35 lv p.l :: (listF hashF 32 kv p.known).it :: L)) (fun us _ => match us with | _ :: _ :: _ :: .int _ m :: _ => 60 - m.toNat | _ => 0) ⟨0, _, by decide, [], newP n y m3, _, _, _, _, rfl, ok0, rfl, rfl, fun _ hq => (by cases hq), Nat.le_refl _, hs⟩ ?_
  clear hs hS hmm
  rintro x1 w ⟨i, ys, hi, SF, p, fv, sv, lv, kv, hx1, ok, hpt, hpb, hBI, hSF, hs⟩
  simp only [List.cons.injEq] at hx1
  simp only [hx1.1, hx1.2.1, hx1.2.2.1, hx1.2.2.2.1]
  obtain ⟨Af, cf, hfv⟩ := hs.lst_len (Ins.lst (.tl .hd))
  rw [List.length_map] at hfv
  subst hfv
  obtain ⟨As, cs', hsv⟩ := hs.lst_len (Ins.lst .hd)
  rw [List.length_map] at hsv
  subst hsv
  repeat (first
   | (with_reducible (first | refine st_lens ?_ | refine st_eqls ?_ | refine st_nels ?_ | refine tk_eqls ?_ | refine tk_nels ?_ | refine mv.mk ?_ | refine nk_p ?_ | refine gdT_i ?_ | refine gdT_ft ?_ | refine gdT_tf ?_ | refine gdT_u ?_ | refine gd_u ?_ | refine gd_ft ?_ | refine gd_tf ?_ | refine gd_i ?_ | refine pk_t ?_ | refine pk_f ?_ | refine br_t ?_ | refine br_f ?_ | refine sp_boxa hs fun g w hs => ?_))
   | (with_reducible ((first | apply st_bin | apply st_ext | apply st_len | apply st_un | apply st_conv | apply st_mki | apply st_fld | apply st_cap | apply st_max | apply st_min | apply st_ixv | apply st_mkf); intro k' hk; simp [go_sem, thenR_ok, bin]; refine hk _ _ ?_; clear hk k'))
   | ((with_reducible (first | apply tk_bin | apply tk_ext | apply tk_len | apply tk_un)); (· intro w; simp [go_sem, bin]; rfl))
   | ((with_reducible apply sp_newr hs); (· kernel_rfl); intro g w hs))
  by_cases h1 : i < l.length ∧ i < 60
  · obtain ⟨h1, h2⟩ := h1
    rw [decide_eq_true h1]
    repeat (first
     | (with_reducible (first | refine st_lens ?_ | refine st_eqls ?_ | refine st_nels ?_ | refine tk_eqls ?_ | refine tk_nels ?_ | refine mv.mk ?_ | refine nk_p ?_ | refine gdT_i ?_ | refine gdT_ft ?_ | refine gdT_tf ?_ | refine gdT_u ?_ | refine gd_u ?_ | refine gd_ft ?_ | refine gd_tf ?_ | refine gd_i ?_ | refine pk_t ?_ | refine pk_f ?_ | refine br_t ?_ | refine br_f ?_ | refine sp_boxa hs fun g w hs => ?_))
     | (with_reducible ((first | apply st_bin | apply st_ext | apply st_len | apply st_un | apply st_conv | apply st_mki | apply st_fld | apply st_cap | apply st_max | apply st_min | apply st_ixv | apply st_mkf); intro k' hk; simp [go_sem, thenR_ok, bin]; refine hk _ _ ?_; clear hk k'))
     | ((with_reducible (first | apply tk_bin | apply tk_ext | apply tk_len | apply tk_un)); (· intro w; simp [go_sem, bin]; rfl))
     | ((with_reducible apply sp_newr hs); (· kernel_rfl); intro g w hs))
    rw [show decide ((i : Int) < 60) = true by simp; omega]
    repeat (first
     | (with_reducible (first | refine st_lens ?_ | refine st_eqls ?_ | refine st_nels ?_ | refine tk_eqls ?_ | refine tk_nels ?_ | refine mv.mk ?_ | refine nk_p ?_ | refine gdT_i ?_ | refine gdT_ft ?_ | refine gdT_tf ?_ | refine gdT_u ?_ | refine gd_u ?_ | refine gd_ft ?_ | refine gd_tf ?_ | refine gd_i ?_ | refine pk_t ?_ | refine pk_f ?_ | refine br_t ?_ | refine br_f ?_ | refine sp_boxa hs fun g w hs => ?_))
     | (with_reducible ((first | apply st_bin | apply st_ext | apply st_len | apply st_un | apply st_conv | apply st_mki | apply st_fld | apply st_cap | apply st_max | apply st_min | apply st_ixv | apply st_mkf); intro k' hk; simp [go_sem, thenR_ok, bin]; refine hk _ _ ?_; clear hk k'))
     | ((with_reducible (first | apply tk_bin | apply tk_ext | apply tk_len | apply tk_un)); (· intro w; simp [go_sem, bin]; rfl))
     | ((with_reducible apply sp_newr hs); (· kernel_rfl); intro g w hs))
    refine jn_by (fun vs w' => ∃ (SF : List (Bytes × Int)) (p : PoolD) (fv sv lv kv : Value) (zs : List Value), vs = .bool false :: fv :: sv :: zs ∧ OkP p (i + 1) ∧ p.txs = n ∧ p.bytes = y ∧ BInv p SF ∧ SF.length ≤ i + 1 ∧ Isk.Sep b w' ((listF hashF 32 sv (SF.map (·.1))).it :: (listF nF 1 fv (SF.map (·.2))).it :: blkI g T.pool_Pool (poolV p lv kv) :: growI itemF T.pool_item 35 lv p.l :: (listF hashF 32 kv p.known).it :: L)) ?_ ?_
    · repeat with_reducible refine mv.mk ?_
      refine sp_eln hs (Ins.lst (.tl (.tl (.tl (.tl (.tl hl)))))) a8T (by kernel_rfl) i rfl h1 fun cs hcl hs => ?_
      have hxl := hB8 _ (List.getElem_mem h1)
      obtain ⟨Ax, cx, lx, rfl, hs⟩ := act8_open hs .hd
      obtain ⟨Ay, cy, rfl⟩ := hs.lst_len (Ins.lst .hd)
      refine sp_newr hs (by kernel_rfl) fun g5 w hs => ?_
      refine sp_setr (ds := act8V l[i] (.slice Ax l[i].tx.length cx) (.slice Ay l[i].list.length cy)) hs .hd (by kernel_rfl) hcl (act8C_one rfl rfl rfl rfl rfl) fun w hs => ?_
      repeat (first
       | (with_reducible refine act8.a0 ?_)
       | ((with_reducible apply act8.r0 hs); (· (with_reducible (repeat (first | exact .blk | exact .rng | apply Rng.tl)))))
       | (with_reducible refine act8.c0 ?_)
       | ((with_reducible apply act8.e0); (· first | exact hS | exact hid); (· (with_reducible (repeat (first | exact .blk | exact .rng | apply Rng.tl)))))
       | (with_reducible refine act8.a1 ?_)
       | ((with_reducible apply act8.r1 hs); (· (with_reducible (repeat (first | exact .blk | exact .rng | apply Rng.tl)))))
       | (with_reducible refine act8.c1 ?_)
       | ((with_reducible apply act8.e1); (· first | exact hS | exact hid); (· (with_reducible (repeat (first | exact .blk | exact .rng | apply Rng.tl)))))
       | (with_reducible refine act8.a2 ?_)
       | ((with_reducible apply act8.r2 hs); (· (with_reducible (repeat (first | exact .blk | exact .rng | apply Rng.tl)))))
       | (with_reducible refine act8.c2 ?_)
       | ((with_reducible apply act8.e2); (· first | exact hS | exact hid); (· (with_reducible (repeat (first | exact .blk | exact .rng | apply Rng.tl)))))
       | (with_reducible refine act8.a3 ?_)
       | ((with_reducible apply act8.r3 hs); (· (with_reducible (repeat (first | exact .blk | exact .rng | apply Rng.tl)))))
       | (with_reducible refine act8.c3 ?_)
       | ((with_reducible apply act8.e3); (· first | exact hS | exact hid); (· (with_reducible (repeat (first | exact .blk | exact .rng | apply Rng.tl)))))
       | (with_reducible refine act8.a4 ?_)
       | ((with_reducible apply act8.r4 hs); (· (with_reducible (repeat (first | exact .blk | exact .rng | apply Rng.tl)))))
       | (with_reducible refine act8.c4 ?_)
       | ((with_reducible apply act8.e4); (· first | exact hS | exact hid); (· (with_reducible (repeat (first | exact .blk | exact .rng | apply Rng.tl)))))
       | (with_reducible (first | refine st_lens ?_ | refine st_eqls ?_ | refine st_nels ?_ | refine tk_eqls ?_ | refine tk_nels ?_ | refine mv.mk ?_ | refine nk_p ?_ | refine gdT_i ?_ | refine gdT_ft ?_ | refine gdT_tf ?_ | refine gdT_u ?_ | refine gd_u ?_ | refine gd_ft ?_ | refine gd_tf ?_ | refine gd_i ?_ | refine pk_t ?_ | refine pk_f ?_ | refine br_t ?_ | refine br_f ?_ | refine sp_boxa hs fun g w hs => ?_))
       | (with_reducible ((first | apply st_bin | apply st_ext | apply st_len | apply st_un | apply st_conv | apply st_mki | apply st_fld | apply st_cap | apply st_max | apply st_min | apply st_ixv | apply st_mkf); intro k' hk; simp [go_sem, thenR_ok, bin]; refine hk _ _ ?_; clear hk k'))
       | ((with_reducible (first | apply tk_bin | apply tk_ext | apply tk_len | apply tk_un)); (· intro w; simp [go_sem, bin]; rfl))
       | ((with_reducible apply sp_newr hs); (· kernel_rfl); intro g w hs))
      replace hs := hs.sbl (L' := blkI g T.pool_Pool (poolV p lv kv) :: growI itemF T.pool_item 35 lv p.l :: (listF hashF 32 kv p.known).it :: (byF (.slice Ax l[i].tx.length cx) l[i].tx).it :: blkI g5 T.isthmuslaw18_Act (act8V l[i] (.slice Ax l[i].tx.length cx) (.slice Ay l[i].list.length cy)) :: (listF hashF 32 (.slice As SF.length cs') (SF.map (·.1))).it :: (listF nF 1 (.slice Af SF.length cf) (SF.map (·.2))).it :: L) (.cons (.tl (.tl (.tl (.tl (.tl (.tl .hd)))))) (.cons (.tl (.tl (.tl (.tl (.tl (.tl .hd)))))) (.cons (.tl (.tl (.tl (.tl (.tl (.tl .hd)))))) (.cons (.tl (.tl .hd)) (.cons .hd (.drop (.drop .all)))))))
      refine cl (pool_Add (bts := l[i].tx) (fee := l[i].fee) ok (by omega) (by omega) (.tl (.tl (.tl (.tl hR)))) .hd hs) ?_
      rintro _ w ⟨gv, e, lv2, kv2, rfl, hs⟩
      generalize l[i] = x at *
      have hnx := ok.add x.tx x.fee
      rcases add_cases p x.tx x.fee with ⟨q1, q2, q3⟩ | ⟨q1, q2, m, q3, q4, q5, q6, hq⟩
      · generalize addP p x.tx x.fee = G at *
        obtain ⟨p', gone, E⟩ := G
        simp only at q1 q2 q3 hs hnx
        subst q1
        subst q2
        obtain ⟨Ag, cg, rfl⟩ := hs.lst_len (Ins.lst .hd)
        repeat (first
         | (with_reducible (first | refine st_lens ?_ | refine st_eqls ?_ | refine st_nels ?_ | refine tk_eqls ?_ | refine tk_nels ?_ | refine mv.mk ?_ | refine nk_p ?_ | refine gdT_i ?_ | refine gdT_ft ?_ | refine gdT_tf ?_ | refine gdT_u ?_ | refine gd_u ?_ | refine gd_ft ?_ | refine gd_tf ?_ | refine gd_i ?_ | refine pk_t ?_ | refine pk_f ?_ | refine br_t ?_ | refine br_f ?_ | refine sp_boxa hs fun g w hs => ?_))
         | (with_reducible ((first | apply st_bin | apply st_ext | apply st_len | apply st_un | apply st_conv | apply st_mki | apply st_fld | apply st_cap | apply st_max | apply st_min | apply st_ixv | apply st_mkf); intro k' hk; simp [go_sem, thenR_ok, bin]; refine hk _ _ ?_; clear hk k'))
         | ((with_reducible (first | apply tk_bin | apply tk_ext | apply tk_len | apply tk_un)); (· intro w; simp [go_sem, bin]; rfl))
         | ((with_reducible apply sp_newr hs); (· kernel_rfl); intro g w hs))
        refine st_of (err_neq8 hs (.tl .hd)) ?_
        rw [decide_eq_false q3]
        repeat (first
         | (with_reducible (first | refine st_lens ?_ | refine st_eqls ?_ | refine st_nels ?_ | refine tk_eqls ?_ | refine tk_nels ?_ | refine mv.mk ?_ | refine nk_p ?_ | refine gdT_i ?_ | refine gdT_ft ?_ | refine gdT_tf ?_ | refine gdT_u ?_ | refine gd_u ?_ | refine gd_ft ?_ | refine gd_tf ?_ | refine gd_i ?_ | refine pk_t ?_ | refine pk_f ?_ | refine br_t ?_ | refine br_f ?_ | refine sp_boxa hs fun g w hs => ?_))
         | (with_reducible ((first | apply st_bin | apply st_ext | apply st_len | apply st_un | apply st_conv | apply st_mki | apply st_fld | apply st_cap | apply st_max | apply st_min | apply st_ixv | apply st_mkf); intro k' hk; simp [go_sem, thenR_ok, bin]; refine hk _ _ ?_; clear hk k'))
         | ((with_reducible (first | apply tk_bin | apply tk_ext | apply tk_len | apply tk_un)); (· intro w; simp [go_sem, bin]; rfl))
         | ((with_reducible apply sp_newr hs); (· kernel_rfl); intro g w hs))
        exact ⟨SF, p', _, _, lv2, kv2, _, rfl, hnx, hpt, hpb, hBI, by omega, hs.sbl (.cons (.tl (.tl (.tl (.tl (.tl (.tl (.tl .hd))))))) (.cons (.tl (.tl (.tl (.tl (.tl (.tl (.tl .hd))))))) (.cons (.tl (.tl .hd)) (.cons (.tl (.tl .hd)) (.cons (.tl (.tl .hd)) (.drop (.drop (.drop (.drop .all)))))))))⟩
      · have hE : (addP p x.tx x.fee).2.2 = 0 := by rw [hq]
        have hg : (addP p x.tx x.fee).2.1 = (p.l.drop m).reverse.map fun y => hB y.b := by rw [hq]
        have hBn : BInv (addP p x.tx x.fee).1 (nextSF (hB x.tx) x.fee SF) := by rw [hq]; exact hBI.next q2
        have hnot : ∀ y ∈ p.l.drop m, hasP (addP p x.tx x.fee).1 (hB y.b) = false := by rw [hq]; exact fun y hy => gone_not ok q2 hy
        have hhas : hasP (addP p x.tx x.fee).1 (hB x.tx) = true := by rw [hq]; exact has_new
        have hpt2 : (addP p x.tx x.fee).1.txs = n := by rw [hq]; exact hpt
        have hpb2 : (addP p x.tx x.fee).1.bytes = y := by rw [hq]; exact hpb
        clear hq
        generalize addP p x.tx x.fee = G at *
        obtain ⟨p', gone, E⟩ := G
        simp only at hE hg hBn hnot hhas hpt2 hpb2 hs hnx
        subst hE
        obtain rfl := errF_zero8 hs (.tl .hd)
        obtain ⟨Ag, cg, rfl⟩ := hs.lst_len (Ins.lst .hd)
        repeat (first
         | (with_reducible (first | refine st_lens ?_ | refine st_eqls ?_ | refine st_nels ?_ | refine tk_eqls ?_ | refine tk_nels ?_ | refine mv.mk ?_ | refine nk_p ?_ | refine gdT_i ?_ | refine gdT_ft ?_ | refine gdT_tf ?_ | refine gdT_u ?_ | refine gd_u ?_ | refine gd_ft ?_ | refine gd_tf ?_ | refine gd_i ?_ | refine pk_t ?_ | refine pk_f ?_ | refine br_t ?_ | refine br_f ?_ | refine sp_boxa hs fun g w hs => ?_))
         | (with_reducible ((first | apply st_bin | apply st_ext | apply st_len | apply st_un | apply st_conv | apply st_mki | apply st_fld | apply st_cap | apply st_max | apply st_min | apply st_ixv | apply st_mkf); intro k' hk; simp [go_sem, thenR_ok, bin]; refine hk _ _ ?_; clear hk k'))
         | ((with_reducible (first | apply tk_bin | apply tk_ext | apply tk_len | apply tk_un)); (· intro w; simp [go_sem, bin]; rfl))
         | ((with_reducible apply sp_newr hs); (· kernel_rfl); intro g w hs))
        have hgl : gone.length ≤ 60 := by
          rw [hg]
          have := ok.came
          simp only [List.length_map, List.length_reverse, List.length_drop]
          have := ok.len
          have := ok.t2
          omega
        have hmem : ∀ (k : Nat) (hk : k < gone.length), ∃ yy ∈ p.l.drop m, gone[k] = hB yy.b := fun k hk => by
          have h5 : gone[k] ∈ (p.l.drop m).reverse.map fun y => hB y.b := by rw [← hg]; exact List.getElem_mem hk
          obtain ⟨yy, h6, h7⟩ := List.mem_map.1 h5
          exact ⟨yy, by simpa using h6, h7.symm⟩
        refine lp_by (fun us w' => ∃ (k : Nat) (z : Value), us = [.bool false, .int .i64 (k : Int), z] ∧ k ≤ gone.length ∧ Isk.Sep b w' ((listF hashF 32 (.slice Ag gone.length cg) gone).it :: (errF .nilIface 0).it :: blkI g T.pool_Pool (poolV p' lv2 kv2) :: growI itemF T.pool_item 35 lv2 p'.l :: (listF hashF 32 kv2 p'.known).it :: (byF (.slice Ax x.tx.length cx) x.tx).it :: blkI g5 T.isthmuslaw18_Act (act8V x (.slice Ax x.tx.length cx) (.slice Ay x.list.length cy)) :: (listF hashF 32 (.slice As SF.length cs') (SF.map (·.1))).it :: (listF nF 1 (.slice Af SF.length cf) (SF.map (·.2))).it :: L)) (fun us _ => match us with | [_, .int _ m, _] => gone.length - m.toNat | _ => 0) ⟨0, _, rfl, Nat.zero_le _, hs⟩ ?_
        clear hs
        rintro x3 w ⟨k, z3, hx3, hk, hs⟩
        simp only [List.cons.injEq, and_true] at hx3
        simp only [hx3.1, hx3.2.1, hx3.2.2]
        repeat (first
         | (with_reducible (first | refine st_lens ?_ | refine st_eqls ?_ | refine st_nels ?_ | refine tk_eqls ?_ | refine tk_nels ?_ | refine mv.mk ?_ | refine nk_p ?_ | refine gdT_i ?_ | refine gdT_ft ?_ | refine gdT_tf ?_ | refine gdT_u ?_ | refine gd_u ?_ | refine gd_ft ?_ | refine gd_tf ?_ | refine gd_i ?_ | refine pk_t ?_ | refine pk_f ?_ | refine br_t ?_ | refine br_f ?_ | refine sp_boxa hs fun g w hs => ?_))
         | (with_reducible ((first | apply st_bin | apply st_ext | apply st_len | apply st_un | apply st_conv | apply st_mki | apply st_fld | apply st_cap | apply st_max | apply st_min | apply st_ixv | apply st_mkf); intro k' hk; simp [go_sem, thenR_ok, bin]; refine hk _ _ ?_; clear hk k'))
         | ((with_reducible (first | apply tk_bin | apply tk_ext | apply tk_len | apply tk_un)); (· intro w; simp [go_sem, bin]; rfl))
         | ((with_reducible apply sp_newr hs); (· kernel_rfl); intro g w hs))
        refine br_split (fun hq => ?_) (fun hq => ?_)
        · have hk' : k < gone.length := by have := of_decide_eq_true hq; omega
          obtain ⟨yy, hyy, hyg⟩ := hmem k hk'
          repeat with_reducible refine mv.mk ?_
          refine lp_by (fun us w' => ∃ (t : Nat), us = [.bool false, .int .i64 (t : Int)] ∧ t ≤ SF.length ∧ Isk.Sep b w' ((listF hashF 32 (.slice Ag gone.length cg) gone).it :: (errF .nilIface 0).it :: blkI g T.pool_Pool (poolV p' lv2 kv2) :: growI itemF T.pool_item 35 lv2 p'.l :: (listF hashF 32 kv2 p'.known).it :: (byF (.slice Ax x.tx.length cx) x.tx).it :: blkI g5 T.isthmuslaw18_Act (act8V x (.slice Ax x.tx.length cx) (.slice Ay x.list.length cy)) :: (listF hashF 32 (.slice As SF.length cs') (SF.map (·.1))).it :: (listF nF 1 (.slice Af SF.length cf) (SF.map (·.2))).it :: L)) (fun us _ => match us with | [_, .int _ m] => SF.length - m.toNat | _ => 0) ⟨0, rfl, Nat.zero_le _, hs⟩ ?_
          clear hs
          rintro x4 w ⟨t, hx4, ht, hs⟩
          simp only [List.cons.injEq, and_true] at hx4
          simp only [hx4.1, hx4.2]
          repeat (first
           | (with_reducible (first | refine st_lens ?_ | refine st_eqls ?_ | refine st_nels ?_ | refine tk_eqls ?_ | refine tk_nels ?_ | refine mv.mk ?_ | refine nk_p ?_ | refine gdT_i ?_ | refine gdT_ft ?_ | refine gdT_tf ?_ | refine gdT_u ?_ | refine gd_u ?_ | refine gd_ft ?_ | refine gd_tf ?_ | refine gd_i ?_ | refine pk_t ?_ | refine pk_f ?_ | refine br_t ?_ | refine br_f ?_ | refine sp_boxa hs fun g w hs => ?_))
           | (with_reducible ((first | apply st_bin | apply st_ext | apply st_len | apply st_un | apply st_conv | apply st_mki | apply st_fld | apply st_cap | apply st_max | apply st_min | apply st_ixv | apply st_mkf); intro k' hk; simp [go_sem, thenR_ok, bin]; refine hk _ _ ?_; clear hk k'))
           | ((with_reducible (first | apply tk_bin | apply tk_ext | apply tk_len | apply tk_un)); (· intro w; simp [go_sem, bin]; rfl))
           | ((with_reducible apply sp_newr hs); (· kernel_rfl); intro g w hs))
          refine br_split (fun hq => ?_) (fun hq => ?_)
          · have ht' : t < SF.length := by have := of_decide_eq_true hq; omega
            obtain ⟨ga, oa, ya, hia, hla, hs⟩ := hs.el (P := Tryd.prog) (T := T.sl_api_Hash) .hd hsT k hk'
            obtain ⟨hya, hgk⟩ : ya = u8s gone[k] ∧ gone[k].length = 32 := hs.get (.tl .hd)
            subst hya
            obtain ⟨gb, ob, yb, hib, hlb, hs⟩ := hs.el (P := Tryd.prog) (T := T.sl_api_Hash) (.tl (.tl (.tl (.tl (.tl (.tl (.tl (.tl (.tl .hd))))))))) hsT t (by rw [List.length_map]; exact ht')
            have h9 := hs.get (Ins.tl Ins.hd)
            rw [List.getElem_map] at h9
            obtain ⟨hyb, hsk⟩ : yb = u8s SF[t].1 ∧ SF[t].1.length = 32 := h9
            subst hyb
            obtain ⟨gc, oc, yc, hic, hlc, hs⟩ := hs.el (P := Tryd.prog) (T := T.sl_int) (.tl (.tl (.tl (.tl (.tl (.tl (.tl (.tl (.tl (.tl (.tl (.tl .hd)))))))))))) slIT t (by rw [List.length_map]; exact ht')
            have h9 := hs.get (Ins.tl Ins.hd)
            rw [List.getElem_map] at h9
            have hyc : yc = [.int .i64 SF[t].2] := h9
            subst hyc
            have hmm := hs.drew.mayr .all
            have hS : ∀ w', w' = w.drew → Mayr _ w' := fun w' e => e.symm ▸ hmm
            repeat with_reducible refine mv.mk ?_
            refine tk_run (hib .i64) ?_
            refine tk_ldn hS (.tl (.tl .rng)) (by kernel_rfl) hlb ?_
            repeat with_reducible refine mv.mk ?_
            refine tk_run (hia .i64) ?_
            refine tk_ldn hS (.tl (.tl (.tl (.tl .rng)))) (by kernel_rfl) hla ?_
            refine tk_run (hash_eq hsk hgk _ _) ?_
            by_cases heq : SF[t].1 = gone[k]
            · rw [decide_eq_true heq]
              have hfee : SF[t].2 < x.fee := by
                have h8 := hBI yy (List.mem_of_mem_drop hyy) SF[t] (List.getElem_mem ht') (by rw [← hyg, ← heq])
                rw [h8]
                exact q6 yy hyy
              repeat (first
               | (with_reducible (first | refine st_lens ?_ | refine st_eqls ?_ | refine st_nels ?_ | refine tk_eqls ?_ | refine tk_nels ?_ | refine mv.mk ?_ | refine nk_p ?_ | refine gdT_i ?_ | refine gdT_ft ?_ | refine gdT_tf ?_ | refine gdT_u ?_ | refine gd_u ?_ | refine gd_ft ?_ | refine gd_tf ?_ | refine gd_i ?_ | refine pk_t ?_ | refine pk_f ?_ | refine br_t ?_ | refine br_f ?_ | refine sp_boxa hs fun g w hs => ?_))
               | (with_reducible ((first | apply st_bin | apply st_ext | apply st_len | apply st_un | apply st_conv | apply st_mki | apply st_fld | apply st_cap | apply st_max | apply st_min | apply st_ixv | apply st_mkf); intro k' hk; simp [go_sem, thenR_ok, bin]; refine hk _ _ ?_; clear hk k'))
               | ((with_reducible (first | apply tk_bin | apply tk_ext | apply tk_len | apply tk_un)); (· intro w; simp [go_sem, bin]; rfl))
               | ((with_reducible apply sp_newr hs); (· kernel_rfl); intro g w hs))
              refine tk_run (hic .i64) ?_
              refine gdT_i ?_
              refine tk_ldx hS .rng (by kernel_rfl) ?_
              repeat (first
               | (with_reducible refine act8.a0 ?_)
               | ((with_reducible apply act8.r0 hs); (· (with_reducible (repeat (first | exact .blk | exact .rng | apply Rng.tl)))))
               | (with_reducible refine act8.c0 ?_)
               | ((with_reducible apply act8.e0); (· first | exact hS | exact hid); (· (with_reducible (repeat (first | exact .blk | exact .rng | apply Rng.tl)))))
               | (with_reducible refine act8.a1 ?_)
               | ((with_reducible apply act8.r1 hs); (· (with_reducible (repeat (first | exact .blk | exact .rng | apply Rng.tl)))))
               | (with_reducible refine act8.c1 ?_)
               | ((with_reducible apply act8.e1); (· first | exact hS | exact hid); (· (with_reducible (repeat (first | exact .blk | exact .rng | apply Rng.tl)))))
               | (with_reducible refine act8.a2 ?_)
               | ((with_reducible apply act8.r2 hs); (· (with_reducible (repeat (first | exact .blk | exact .rng | apply Rng.tl)))))
               | (with_reducible refine act8.c2 ?_)
               | ((with_reducible apply act8.e2); (· first | exact hS | exact hid); (· (with_reducible (repeat (first | exact .blk | exact .rng | apply Rng.tl)))))
               | (with_reducible refine act8.a3 ?_)
               | ((with_reducible apply act8.r3 hs); (· (with_reducible (repeat (first | exact .blk | exact .rng | apply Rng.tl)))))
               | (with_reducible refine act8.c3 ?_)
               | ((with_reducible apply act8.e3); (· first | exact hS | exact hid); (· (with_reducible (repeat (first | exact .blk | exact .rng | apply Rng.tl)))))
               | (with_reducible refine act8.a4 ?_)
               | ((with_reducible apply act8.r4 hs); (· (with_reducible (repeat (first | exact .blk | exact .rng | apply Rng.tl)))))
               | (with_reducible refine act8.c4 ?_)
               | ((with_reducible apply act8.e4); (· first | exact hS | exact hid); (· (with_reducible (repeat (first | exact .blk | exact .rng | apply Rng.tl)))))
               | (with_reducible (first | refine st_lens ?_ | refine st_eqls ?_ | refine st_nels ?_ | refine tk_eqls ?_ | refine tk_nels ?_ | refine mv.mk ?_ | refine nk_p ?_ | refine gdT_i ?_ | refine gdT_ft ?_ | refine gdT_tf ?_ | refine gdT_u ?_ | refine gd_u ?_ | refine gd_ft ?_ | refine gd_tf ?_ | refine gd_i ?_ | refine pk_t ?_ | refine pk_f ?_ | refine br_t ?_ | refine br_f ?_ | refine sp_boxa hs fun g w hs => ?_))
               | (with_reducible ((first | apply st_bin | apply st_ext | apply st_len | apply st_un | apply st_conv | apply st_mki | apply st_fld | apply st_cap | apply st_max | apply st_min | apply st_ixv | apply st_mkf); intro k' hk; simp [go_sem, thenR_ok, bin]; refine hk _ _ ?_; clear hk k'))
               | ((with_reducible (first | apply tk_bin | apply tk_ext | apply tk_len | apply tk_un)); (· intro w; simp [go_sem, bin]; rfl))
               | ((with_reducible apply sp_newr hs); (· kernel_rfl); intro g w hs))
              rw [show decide (x.fee ≤ SF[t].2) = false by simp only [decide_eq_false_iff_not]; omega]
              repeat (first
               | (with_reducible (first | refine st_lens ?_ | refine st_eqls ?_ | refine st_nels ?_ | refine tk_eqls ?_ | refine tk_nels ?_ | refine mv.mk ?_ | refine nk_p ?_ | refine gdT_i ?_ | refine gdT_ft ?_ | refine gdT_tf ?_ | refine gdT_u ?_ | refine gd_u ?_ | refine gd_ft ?_ | refine gd_tf ?_ | refine gd_i ?_ | refine pk_t ?_ | refine pk_f ?_ | refine br_t ?_ | refine br_f ?_ | refine sp_boxa hs fun g w hs => ?_))
               | (with_reducible ((first | apply st_bin | apply st_ext | apply st_len | apply st_un | apply st_conv | apply st_mki | apply st_fld | apply st_cap | apply st_max | apply st_min | apply st_ixv | apply st_mkf); intro k' hk; simp [go_sem, thenR_ok, bin]; refine hk _ _ ?_; clear hk k'))
               | ((with_reducible (first | apply tk_bin | apply tk_ext | apply tk_len | apply tk_un)); (· intro w; simp [go_sem, bin]; rfl))
               | ((with_reducible apply sp_newr hs); (· kernel_rfl); intro g w hs))
              rw [i64_succ (by omega)]
              exact ⟨⟨t + 1, rfl, ht', hs.drew.sbl (.drop (.drop (.drop (.drop (.drop (.drop .all))))))⟩, by simp; omega⟩
            · rw [decide_eq_false heq]
              repeat (first
               | (with_reducible (first | refine st_lens ?_ | refine st_eqls ?_ | refine st_nels ?_ | refine tk_eqls ?_ | refine tk_nels ?_ | refine mv.mk ?_ | refine nk_p ?_ | refine gdT_i ?_ | refine gdT_ft ?_ | refine gdT_tf ?_ | refine gdT_u ?_ | refine gd_u ?_ | refine gd_ft ?_ | refine gd_tf ?_ | refine gd_i ?_ | refine pk_t ?_ | refine pk_f ?_ | refine br_t ?_ | refine br_f ?_ | refine sp_boxa hs fun g w hs => ?_))
               | (with_reducible ((first | apply st_bin | apply st_ext | apply st_len | apply st_un | apply st_conv | apply st_mki | apply st_fld | apply st_cap | apply st_max | apply st_min | apply st_ixv | apply st_mkf); intro k' hk; simp [go_sem, thenR_ok, bin]; refine hk _ _ ?_; clear hk k'))
               | ((with_reducible (first | apply tk_bin | apply tk_ext | apply tk_len | apply tk_un)); (· intro w; simp [go_sem, bin]; rfl))
               | ((with_reducible apply sp_newr hs); (· kernel_rfl); intro g w hs))
              rw [i64_succ (by omega)]
              exact ⟨⟨t + 1, rfl, ht', hs.drew.sbl (.drop (.drop (.drop (.drop (.drop (.drop .all))))))⟩, by simp; omega⟩
          · repeat with_reducible refine mv.mk ?_
            obtain ⟨ga, oa, ya, hia, hla, hs⟩ := hs.el (P := Tryd.prog) (T := T.sl_api_Hash) .hd hsT k hk'
            obtain ⟨hya, hgk⟩ : ya = u8s gone[k] ∧ gone[k].length = 32 := hs.get (.tl .hd)
            subst hya
            refine st_of (hia .i64 w) ?_
            refine sp_ldn hs .rng (by kernel_rfl) hla ?_
            refine cl (pool_Has (by have := hnx.len; have := hnx.t2; omega) hgk (hs.sbl (.cons (.tl (.tl (.tl (.tl .hd)))) (.cons (.tl (.tl (.tl (.tl .hd)))) .all)))) ?_
            rintro _ w ⟨rfl, hs⟩
            rw [hyg, hnot yy hyy]
            repeat (first
             | (with_reducible (first | refine st_lens ?_ | refine st_eqls ?_ | refine st_nels ?_ | refine tk_eqls ?_ | refine tk_nels ?_ | refine mv.mk ?_ | refine nk_p ?_ | refine gdT_i ?_ | refine gdT_ft ?_ | refine gdT_tf ?_ | refine gdT_u ?_ | refine gd_u ?_ | refine gd_ft ?_ | refine gd_tf ?_ | refine gd_i ?_ | refine pk_t ?_ | refine pk_f ?_ | refine br_t ?_ | refine br_f ?_ | refine sp_boxa hs fun g w hs => ?_))
             | (with_reducible ((first | apply st_bin | apply st_ext | apply st_len | apply st_un | apply st_conv | apply st_mki | apply st_fld | apply st_cap | apply st_max | apply st_min | apply st_ixv | apply st_mkf); intro k' hk; simp [go_sem, thenR_ok, bin]; refine hk _ _ ?_; clear hk k'))
             | ((with_reducible (first | apply tk_bin | apply tk_ext | apply tk_len | apply tk_un)); (· intro w; simp [go_sem, bin]; rfl))
             | ((with_reducible apply sp_newr hs); (· kernel_rfl); intro g w hs))
            rw [i64_succ (by omega)]
            exact ⟨⟨k + 1, _, rfl, hk', hs.sbl (.cons (.tl (.tl (.tl (.tl .hd)))) (.cons (.tl (.tl (.tl (.tl .hd)))) (.cons .hd (.cons .hd (.drop (.drop .all))))))⟩, by simp; omega⟩
        · repeat (first
           | (with_reducible refine act8.a0 ?_)
           | ((with_reducible apply act8.r0 hs); (· (with_reducible (repeat (first | exact .blk | exact .rng | apply Rng.tl)))))
           | (with_reducible refine act8.c0 ?_)
           | ((with_reducible apply act8.e0); (· first | exact hS | exact hid); (· (with_reducible (repeat (first | exact .blk | exact .rng | apply Rng.tl)))))
           | (with_reducible refine act8.a1 ?_)
           | ((with_reducible apply act8.r1 hs); (· (with_reducible (repeat (first | exact .blk | exact .rng | apply Rng.tl)))))
           | (with_reducible refine act8.c1 ?_)
           | ((with_reducible apply act8.e1); (· first | exact hS | exact hid); (· (with_reducible (repeat (first | exact .blk | exact .rng | apply Rng.tl)))))
           | (with_reducible refine act8.a2 ?_)
           | ((with_reducible apply act8.r2 hs); (· (with_reducible (repeat (first | exact .blk | exact .rng | apply Rng.tl)))))
           | (with_reducible refine act8.c2 ?_)
           | ((with_reducible apply act8.e2); (· first | exact hS | exact hid); (· (with_reducible (repeat (first | exact .blk | exact .rng | apply Rng.tl)))))
           | (with_reducible refine act8.a3 ?_)
           | ((with_reducible apply act8.r3 hs); (· (with_reducible (repeat (first | exact .blk | exact .rng | apply Rng.tl)))))
           | (with_reducible refine act8.c3 ?_)
           | ((with_reducible apply act8.e3); (· first | exact hS | exact hid); (· (with_reducible (repeat (first | exact .blk | exact .rng | apply Rng.tl)))))
           | (with_reducible refine act8.a4 ?_)
           | ((with_reducible apply act8.r4 hs); (· (with_reducible (repeat (first | exact .blk | exact .rng | apply Rng.tl)))))
           | (with_reducible refine act8.c4 ?_)
           | ((with_reducible apply act8.e4); (· first | exact hS | exact hid); (· (with_reducible (repeat (first | exact .blk | exact .rng | apply Rng.tl)))))
           | (with_reducible (first | refine st_lens ?_ | refine st_eqls ?_ | refine st_nels ?_ | refine tk_eqls ?_ | refine tk_nels ?_ | refine mv.mk ?_ | refine nk_p ?_ | refine gdT_i ?_ | refine gdT_ft ?_ | refine gdT_tf ?_ | refine gdT_u ?_ | refine gd_u ?_ | refine gd_ft ?_ | refine gd_tf ?_ | refine gd_i ?_ | refine pk_t ?_ | refine pk_f ?_ | refine br_t ?_ | refine br_f ?_ | refine sp_boxa hs fun g w hs => ?_))
           | (with_reducible ((first | apply st_bin | apply st_ext | apply st_len | apply st_un | apply st_conv | apply st_mki | apply st_fld | apply st_cap | apply st_max | apply st_min | apply st_ixv | apply st_mkf); intro k' hk; simp [go_sem, thenR_ok, bin]; refine hk _ _ ?_; clear hk k'))
           | ((with_reducible (first | apply tk_bin | apply tk_ext | apply tk_len | apply tk_un)); (· intro w; simp [go_sem, bin]; rfl))
           | ((with_reducible apply sp_newr hs); (· kernel_rfl); intro g w hs))
          have hH := hB_len x.tx
          refine cl (txs_Hash (l := x.tx) hs (.tl (.tl (.tl (.tl (.tl (.tl (.tl (.tl (.tl hR))))))))) (.tl (.tl (.tl (.tl (.tl .hd))))) (by omega)) ?_
          rintro _ w ⟨rfl, hs⟩
          refine sp_newr hs (by kernel_rfl) fun g17 w hs => ?_
          refine sp_setr (ds := u8s (hB x.tx)) hs .hd (by kernel_rfl) (by rw [u8s_length, hH]) (u8s_one _) fun w hs => ?_
          replace hs := ((hs.grow0 nF T.int 1).grow0 hashF T.api_Hash 32).sbl (L' := growI hashF T.api_Hash 32 (.slice none 0 0) ((([] : List (Bytes × Int))).map (·.1)) :: growI nF T.int 1 (.slice none 0 0) ((([] : List (Bytes × Int))).map (·.2)) :: blkI g17 T.api_Hash (u8s (hB x.tx)) :: blkI g T.pool_Pool (poolV p' lv2 kv2) :: growI itemF T.pool_item 35 lv2 p'.l :: (listF hashF 32 kv2 p'.known).it :: blkI g5 T.isthmuslaw18_Act (act8V x (.slice Ax x.tx.length cx) (.slice Ay x.list.length cy)) :: (listF hashF 32 (.slice As SF.length cs') (SF.map (·.1))).it :: (listF nF 1 (.slice Af SF.length cf) (SF.map (·.2))).it :: L) (.cons .hd (.cons .hd (.cons .hd (.drop (.drop (.cons .hd (.cons .hd (.cons .hd (.drop .all)))))))))
          repeat with_reducible refine mv.mk ?_
          refine lp_by (fun us w' => ∃ (t : Nat) (s2v f2v : Value), us = [s2v, f2v, .int .i64 (t : Int)] ∧ t ≤ SF.length ∧ Isk.Sep b w' (growI hashF T.api_Hash 32 s2v (((SF.take t).filter fun q => !decide (q.1 = hB x.tx)).map (·.1)) :: growI nF T.int 1 f2v (((SF.take t).filter fun q => !decide (q.1 = hB x.tx)).map (·.2)) :: blkI g17 T.api_Hash (u8s (hB x.tx)) :: blkI g T.pool_Pool (poolV p' lv2 kv2) :: growI itemF T.pool_item 35 lv2 p'.l :: (listF hashF 32 kv2 p'.known).it :: blkI g5 T.isthmuslaw18_Act (act8V x (.slice Ax x.tx.length cx) (.slice Ay x.list.length cy)) :: (listF hashF 32 (.slice As SF.length cs') (SF.map (·.1))).it :: (listF nF 1 (.slice Af SF.length cf) (SF.map (·.2))).it :: L)) (fun us _ => match us with | [_, _, .int _ m] => SF.length - m.toNat | _ => 0) ⟨0, _, _, rfl, Nat.zero_le _, hs⟩ ?_
          clear hs
          rintro x5 w ⟨t, s2v, f2v, hx5, ht, hs⟩
          simp only [List.cons.injEq, and_true] at hx5
          simp only [hx5.1, hx5.2.1, hx5.2.2]
          repeat (first
           | (with_reducible (first | refine st_lens ?_ | refine st_eqls ?_ | refine st_nels ?_ | refine tk_eqls ?_ | refine tk_nels ?_ | refine mv.mk ?_ | refine nk_p ?_ | refine gdT_i ?_ | refine gdT_ft ?_ | refine gdT_tf ?_ | refine gdT_u ?_ | refine gd_u ?_ | refine gd_ft ?_ | refine gd_tf ?_ | refine gd_i ?_ | refine pk_t ?_ | refine pk_f ?_ | refine br_t ?_ | refine br_f ?_ | refine sp_boxa hs fun g w hs => ?_))
           | (with_reducible ((first | apply st_bin | apply st_ext | apply st_len | apply st_un | apply st_conv | apply st_mki | apply st_fld | apply st_cap | apply st_max | apply st_min | apply st_ixv | apply st_mkf); intro k' hk; simp [go_sem, thenR_ok, bin]; refine hk _ _ ?_; clear hk k'))
           | ((with_reducible (first | apply tk_bin | apply tk_ext | apply tk_len | apply tk_un)); (· intro w; simp [go_sem, bin]; rfl))
           | ((with_reducible apply sp_newr hs); (· kernel_rfl); intro g w hs))
          refine br_split (fun hq => ?_) (fun hq => ?_)
          · have ht' : t < SF.length := by have := of_decide_eq_true hq; omega
            obtain ⟨gb, ob, yb, hib, hlb, hs⟩ := hs.el (P := Tryd.prog) (T := T.sl_api_Hash) (.tl (.tl (.tl (.tl (.tl (.tl (.tl .hd))))))) hsT t (by rw [List.length_map]; exact ht')
            have h9 := hs.get (Ins.tl Ins.hd)
            rw [List.getElem_map] at h9
            obtain ⟨hyb, hsk⟩ : yb = u8s SF[t].1 ∧ SF[t].1.length = 32 := h9
            subst hyb
            obtain ⟨gc, oc, yc, hic, hlc, hs⟩ := hs.el (P := Tryd.prog) (T := T.sl_int) (.tl (.tl (.tl (.tl (.tl (.tl (.tl (.tl (.tl (.tl .hd)))))))))) slIT t (by rw [List.length_map]; exact ht')
            have h9 := hs.get (Ins.tl Ins.hd)
            rw [List.getElem_map] at h9
            have hyc : yc = [.int .i64 SF[t].2] := h9
            subst hyc
            have hmm := hs.drew.mayr .all
            have hS : ∀ w', w' = w.drew → Mayr _ w' := fun w' e => e.symm ▸ hmm
            repeat with_reducible refine mv.mk ?_
            refine tk_run (hib .i64) ?_
            refine tk_ldn hS (.tl (.tl .rng)) (by kernel_rfl) hlb ?_
            refine tk_ldn hS (.tl (.tl (.tl (.tl (.tl (.tl .blk)))))) (by kernel_rfl) (by rw [u8s_length, hH]) ?_
            refine tk_run (hash_ne hsk hH _ _) ?_
            replace hs := hs.drew
            refine jn_by (fun us w' => ∃ (a c : Value), us = [a, c] ∧ Isk.Sep b w' (growI hashF T.api_Hash 32 a (((SF.take (t + 1)).filter fun q => !decide (q.1 = hB x.tx)).map (·.1)) :: growI nF T.int 1 c (((SF.take (t + 1)).filter fun q => !decide (q.1 = hB x.tx)).map (·.2)) :: blkI g17 T.api_Hash (u8s (hB x.tx)) :: blkI g T.pool_Pool (poolV p' lv2 kv2) :: growI itemF T.pool_item 35 lv2 p'.l :: (listF hashF 32 kv2 p'.known).it :: blkI g5 T.isthmuslaw18_Act (act8V x (.slice Ax x.tx.length cx) (.slice Ay x.list.length cy)) :: (listF hashF 32 (.slice As SF.length cs') (SF.map (·.1))).it :: (listF nF 1 (.slice Af SF.length cf) (SF.map (·.2))).it :: L)) ?_ ?_
            · by_cases heq : SF[t].1 = hB x.tx
              · rw [decide_eq_true heq, Bool.not_true]
                repeat (first
                 | (with_reducible (first | refine st_lens ?_ | refine st_eqls ?_ | refine st_nels ?_ | refine tk_eqls ?_ | refine tk_nels ?_ | refine mv.mk ?_ | refine nk_p ?_ | refine gdT_i ?_ | refine gdT_ft ?_ | refine gdT_tf ?_ | refine gdT_u ?_ | refine gd_u ?_ | refine gd_ft ?_ | refine gd_tf ?_ | refine gd_i ?_ | refine pk_t ?_ | refine pk_f ?_ | refine br_t ?_ | refine br_f ?_ | refine sp_boxa hs fun g w hs => ?_))
                 | (with_reducible ((first | apply st_bin | apply st_ext | apply st_len | apply st_un | apply st_conv | apply st_mki | apply st_fld | apply st_cap | apply st_max | apply st_min | apply st_ixv | apply st_mkf); intro k' hk; simp [go_sem, thenR_ok, bin]; refine hk _ _ ?_; clear hk k'))
                 | ((with_reducible (first | apply tk_bin | apply tk_ext | apply tk_len | apply tk_un)); (· intro w; simp [go_sem, bin]; rfl))
                 | ((with_reducible apply sp_newr hs); (· kernel_rfl); intro g w hs))
                have e1 : ((SF.take (t + 1)).filter fun q => !decide (q.1 = hB x.tx)) = ((SF.take t).filter fun q => !decide (q.1 = hB x.tx)) := by rw [List.take_succ_eq_append_getElem ht', List.filter_append]; simp [heq]
                rw [e1]
                exact ⟨_, _, rfl, hs.sbl (.drop (.drop (.drop (.drop .all))))⟩
              · rw [decide_eq_false heq, Bool.not_false]
                repeat (first
                 | (with_reducible (first | refine st_lens ?_ | refine st_eqls ?_ | refine st_nels ?_ | refine tk_eqls ?_ | refine tk_nels ?_ | refine mv.mk ?_ | refine nk_p ?_ | refine gdT_i ?_ | refine gdT_ft ?_ | refine gdT_tf ?_ | refine gdT_u ?_ | refine gd_u ?_ | refine gd_ft ?_ | refine gd_tf ?_ | refine gd_i ?_ | refine pk_t ?_ | refine pk_f ?_ | refine br_t ?_ | refine br_f ?_ | refine sp_boxa hs fun g w hs => ?_))
                 | (with_reducible ((first | apply st_bin | apply st_ext | apply st_len | apply st_un | apply st_conv | apply st_mki | apply st_fld | apply st_cap | apply st_max | apply st_min | apply st_ixv | apply st_mkf); intro k' hk; simp [go_sem, thenR_ok, bin]; refine hk _ _ ?_; clear hk k'))
                 | ((with_reducible (first | apply tk_bin | apply tk_ext | apply tk_len | apply tk_un)); (· intro w; simp [go_sem, bin]; rfl))
                 | ((with_reducible apply sp_newr hs); (· kernel_rfl); intro g w hs))
                have e1 : ((SF.take (t + 1)).filter fun q => !decide (q.1 = hB x.tx)) = ((SF.take t).filter fun q => !decide (q.1 = hB x.tx)) ++ [SF[t]] := by rw [List.take_succ_eq_append_getElem ht', List.filter_append]; simp [heq]
                have hfl : (((SF.take t).filter fun q => !decide (q.1 = hB x.tx))).length ≤ SF.length := Nat.le_trans (List.length_filter_le _ _) (by rw [List.length_take]; omega)
                refine st_of (hib .i64 _) ?_
                refine sp_ldn hs (.tl (.tl .rng)) (by kernel_rfl) hlb ?_
                replace hs := hs.fact (f := hashF (u8s SF[t].1) SF[t].1) ⟨rfl, hsk⟩
                refine sp_lita hs hsT hlb (by decide) fun v5 w hs => ?_
                refine sp_push (ys := u8s SF[t].1) (a := SF[t].1) hs (.tl (.tl (.tl (.tl (.tl (.tl .hd)))))) hsT (by exact .sl) (by exact (.tl .hd)) (u8s_one _) (by rw [List.length_map]; omega) (by rw [List.length_map]; omega) fun v6 w hs => ?_
                repeat with_reducible refine mv.mk ?_
                refine st_of (hic .i64 _) ?_
                refine sp_ldx hs (.tl (.tl (.tl .rng))) (by kernel_rfl) ?_
                replace hs := hs.fact (f := nF [.int .i64 SF[t].2] SF[t].2) rfl
                refine sp_litv hs slIT rfl fun v7 w hs => ?_
                refine sp_push (ys := [.int .i64 SF[t].2]) (a := SF[t].2) hs (.tl (.tl (.tl (.tl (.tl (.tl (.tl (.tl (.tl .hd))))))))) slIT (by exact .sl) (by exact (.tl .hd)) (fun u hu => by simp at hu; subst hu; rfl) (by rw [List.length_map]; omega) (by rw [List.length_map]; omega) fun v8 w hs => ?_
                repeat with_reducible refine mv.mk ?_
                rw [e1, List.map_append, List.map_append]
                exact ⟨_, _, rfl, hs.sbl (.cons (.tl (.tl (.tl .hd))) (.cons .hd (.drop (.drop (.drop (.drop (.drop (.drop (.drop (.drop .all))))))))))⟩
            · rintro x6 w ⟨a, c, hx6, hs⟩
              simp only [List.cons.injEq, and_true] at hx6
              simp only [hx6.1, hx6.2]
              repeat (first
               | (with_reducible (first | refine st_lens ?_ | refine st_eqls ?_ | refine st_nels ?_ | refine tk_eqls ?_ | refine tk_nels ?_ | refine mv.mk ?_ | refine nk_p ?_ | refine gdT_i ?_ | refine gdT_ft ?_ | refine gdT_tf ?_ | refine gdT_u ?_ | refine gd_u ?_ | refine gd_ft ?_ | refine gd_tf ?_ | refine gd_i ?_ | refine pk_t ?_ | refine pk_f ?_ | refine br_t ?_ | refine br_f ?_ | refine sp_boxa hs fun g w hs => ?_))
               | (with_reducible ((first | apply st_bin | apply st_ext | apply st_len | apply st_un | apply st_conv | apply st_mki | apply st_fld | apply st_cap | apply st_max | apply st_min | apply st_ixv | apply st_mkf); intro k' hk; simp [go_sem, thenR_ok, bin]; refine hk _ _ ?_; clear hk k'))
               | ((with_reducible (first | apply tk_bin | apply tk_ext | apply tk_len | apply tk_un)); (· intro w; simp [go_sem, bin]; rfl))
               | ((with_reducible apply sp_newr hs); (· kernel_rfl); intro g w hs))
              rw [i64_succ (by omega)]
              exact ⟨⟨t + 1, a, c, rfl, ht', hs⟩, by simp; omega⟩
          · obtain rfl : t = SF.length := by have := of_decide_eq_false hq; omega
            rw [List.take_length] at hs
            have hfl : (SF.filter fun q => !decide (q.1 = hB x.tx)).length ≤ SF.length := List.length_filter_le _ _
            replace hs := (((hs.fact (f := hashF (u8s (hB x.tx)) (hB x.tx)) ⟨rfl, hH⟩).fact (f := nF [.int .i64 x.fee] x.fee) rfl)).drew
            refine dr_can (R := [blkI g17 T.api_Hash (u8s (hB x.tx)), blkI g5 T.isthmuslaw18_Act (act8V x (.slice Ax x.tx.length cx) (.slice Ay x.list.length cy))]) hs (.drop (.drop (.drop (.drop (.cons .hd (.drop (.drop (.drop (.cons .hd .nil))))))))) ?_
            have hS : ∀ w, Mayr [blkI g17 T.api_Hash (u8s (hB x.tx)), blkI g5 T.isthmuslaw18_Act (act8V x (.slice Ax x.tx.length cx) (.slice Ay x.list.length cy))] w → Mayr [blkI g17 T.api_Hash (u8s (hB x.tx)), blkI g5 T.isthmuslaw18_Act (act8V x (.slice Ax x.tx.length cx) (.slice Ay x.list.length cy))] w := fun _ h => h
            repeat with_reducible refine mv.mk ?_
            refine tk_ldn hid .blk (by kernel_rfl) (by rw [u8s_length, hH]) ?_
            repeat (first
             | (with_reducible refine act8.a0 ?_)
             | ((with_reducible apply act8.r0 hs); (· (with_reducible (repeat (first | exact .blk | exact .rng | apply Rng.tl)))))
             | (with_reducible refine act8.c0 ?_)
             | ((with_reducible apply act8.e0); (· first | exact hS | exact hid); (· (with_reducible (repeat (first | exact .blk | exact .rng | apply Rng.tl)))))
             | (with_reducible refine act8.a1 ?_)
             | ((with_reducible apply act8.r1 hs); (· (with_reducible (repeat (first | exact .blk | exact .rng | apply Rng.tl)))))
             | (with_reducible refine act8.c1 ?_)
             | ((with_reducible apply act8.e1); (· first | exact hS | exact hid); (· (with_reducible (repeat (first | exact .blk | exact .rng | apply Rng.tl)))))
             | (with_reducible refine act8.a2 ?_)
             | ((with_reducible apply act8.r2 hs); (· (with_reducible (repeat (first | exact .blk | exact .rng | apply Rng.tl)))))
             | (with_reducible refine act8.c2 ?_)
             | ((with_reducible apply act8.e2); (· first | exact hS | exact hid); (· (with_reducible (repeat (first | exact .blk | exact .rng | apply Rng.tl)))))
             | (with_reducible refine act8.a3 ?_)
             | ((with_reducible apply act8.r3 hs); (· (with_reducible (repeat (first | exact .blk | exact .rng | apply Rng.tl)))))
             | (with_reducible refine act8.c3 ?_)
             | ((with_reducible apply act8.e3); (· first | exact hS | exact hid); (· (with_reducible (repeat (first | exact .blk | exact .rng | apply Rng.tl)))))
             | (with_reducible refine act8.a4 ?_)
             | ((with_reducible apply act8.r4 hs); (· (with_reducible (repeat (first | exact .blk | exact .rng | apply Rng.tl)))))
             | (with_reducible refine act8.c4 ?_)
             | ((with_reducible apply act8.e4); (· first | exact hS | exact hid); (· (with_reducible (repeat (first | exact .blk | exact .rng | apply Rng.tl)))))
             | (with_reducible (first | refine st_lens ?_ | refine st_eqls ?_ | refine st_nels ?_ | refine tk_eqls ?_ | refine tk_nels ?_ | refine mv.mk ?_ | refine nk_p ?_ | refine gdT_i ?_ | refine gdT_ft ?_ | refine gdT_tf ?_ | refine gdT_u ?_ | refine gd_u ?_ | refine gd_ft ?_ | refine gd_tf ?_ | refine gd_i ?_ | refine pk_t ?_ | refine pk_f ?_ | refine br_t ?_ | refine br_f ?_ | refine sp_boxa hs fun g w hs => ?_))
             | (with_reducible ((first | apply st_bin | apply st_ext | apply st_len | apply st_un | apply st_conv | apply st_mki | apply st_fld | apply st_cap | apply st_max | apply st_min | apply st_ixv | apply st_mkf); intro k' hk; simp [go_sem, thenR_ok, bin]; refine hk _ _ ?_; clear hk k'))
             | ((with_reducible (first | apply tk_bin | apply tk_ext | apply tk_len | apply tk_un)); (· intro w; simp [go_sem, bin]; rfl))
             | ((with_reducible apply sp_newr hs); (· kernel_rfl); intro g w hs))
            have hl1 : ((SF.filter fun q => !decide (q.1 = hB x.tx)).map (·.1)).length ≤ 60 := by rw [List.length_map]; omega
            have hl2 : ((SF.filter fun q => !decide (q.1 = hB x.tx)).map (·.2)).length ≤ 60 := by rw [List.length_map]; omega
            have hone1 : ∀ u ∈ [Value.int .i64 x.fee], u.oneCell' = true := fun u hu => by simp at hu; subst hu; rfl
            refine ⟨?_, ?_⟩
            · refine sp_lita hs hsT (by rw [u8s_length, hH]) (by decide) fun v5 w hs => ?_
              refine ⟨hs.mayr (.drop (.drop (.drop (.drop (.drop (.cons .hd (.drop (.drop (.drop (.cons .hd .nil)))))))))), ?_⟩
              refine ⟨?_, ?_⟩
              · refine sp_push (ys := u8s (hB x.tx)) (a := hB x.tx) hs (.tl (.tl (.tl .hd))) hsT (by exact .sl) (by exact (.tl (.tl .hd))) (u8s_one _) (by omega) (by omega) fun sv3 w hs => ?_
                refine ⟨hs.mayr (.drop (.drop (.drop (.drop (.drop (.cons .hd (.drop (.drop (.drop (.cons .hd .nil)))))))))), ?_⟩
                refine sp_litv hs slIT rfl fun v7 w hs => ?_
                refine ⟨hs.mayr (.drop (.drop (.drop (.drop (.drop (.drop (.cons .hd (.drop (.drop (.drop (.cons .hd .nil))))))))))), ?_⟩
                refine sp_push (ys := [.int .i64 x.fee]) (a := x.fee) hs (.tl (.tl (.tl (.tl (.tl .hd))))) slIT (by exact .sl) (by exact (.tl (.tl (.tl .hd)))) hone1 (by omega) (by omega) fun fv3 w hs => ?_
                refine ⟨hs.mayr (.drop (.drop (.drop (.drop (.drop (.drop (.cons .hd (.drop (.drop (.drop (.cons .hd .nil))))))))))), ?_⟩
                replace hs := hs.sbl (L' := blkI g T.pool_Pool (poolV p' lv2 kv2) :: growI itemF T.pool_item 35 lv2 p'.l :: (listF hashF 32 kv2 p'.known).it :: growI hashF T.api_Hash 32 sv3 _ :: growI nF T.int 1 fv3 _ :: blkI g17 T.api_Hash (u8s (hB x.tx)) :: L) (.cons (.tl (.tl (.tl (.tl (.tl (.tl (.tl .hd))))))) (.cons (.tl (.tl (.tl (.tl (.tl (.tl (.tl .hd))))))) (.cons (.tl (.tl (.tl (.tl (.tl (.tl (.tl .hd))))))) (.cons (.tl (.tl .hd)) (.cons .hd (.drop (.drop (.drop (.drop (.cons .hd (.drop (.drop (.drop .all)))))))))))))
                repeat with_reducible refine mv.mk ?_
                refine cl (pool_Len hs) ?_
                rintro _ w ⟨rfl, hs⟩
                repeat (first
                 | (with_reducible (first | refine st_lens ?_ | refine st_eqls ?_ | refine st_nels ?_ | refine tk_eqls ?_ | refine tk_nels ?_ | refine mv.mk ?_ | refine nk_p ?_ | refine gdT_i ?_ | refine gdT_ft ?_ | refine gdT_tf ?_ | refine gdT_u ?_ | refine gd_u ?_ | refine gd_ft ?_ | refine gd_tf ?_ | refine gd_i ?_ | refine pk_t ?_ | refine pk_f ?_ | refine br_t ?_ | refine br_f ?_ | refine sp_boxa hs fun g w hs => ?_))
                 | (with_reducible ((first | apply st_bin | apply st_ext | apply st_len | apply st_un | apply st_conv | apply st_mki | apply st_fld | apply st_cap | apply st_max | apply st_min | apply st_ixv | apply st_mkf); intro k' hk; simp [go_sem, thenR_ok, bin]; refine hk _ _ ?_; clear hk k'))
                 | ((with_reducible (first | apply tk_bin | apply tk_ext | apply tk_len | apply tk_un)); (· intro w; simp [go_sem, bin]; rfl))
                 | ((with_reducible apply sp_newr hs); (· kernel_rfl); intro g w hs))
                rw [show decide (n < (p'.l.length : Int)) = false by simp only [decide_eq_false_iff_not]; have := hnx.len; omega]
                repeat (first
                 | (with_reducible (first | refine st_lens ?_ | refine st_eqls ?_ | refine st_nels ?_ | refine tk_eqls ?_ | refine tk_nels ?_ | refine mv.mk ?_ | refine nk_p ?_ | refine gdT_i ?_ | refine gdT_ft ?_ | refine gdT_tf ?_ | refine gdT_u ?_ | refine gd_u ?_ | refine gd_ft ?_ | refine gd_tf ?_ | refine gd_i ?_ | refine pk_t ?_ | refine pk_f ?_ | refine br_t ?_ | refine br_f ?_ | refine sp_boxa hs fun g w hs => ?_))
                 | (with_reducible ((first | apply st_bin | apply st_ext | apply st_len | apply st_un | apply st_conv | apply st_mki | apply st_fld | apply st_cap | apply st_max | apply st_min | apply st_ixv | apply st_mkf); intro k' hk; simp [go_sem, thenR_ok, bin]; refine hk _ _ ?_; clear hk k'))
                 | ((with_reducible (first | apply tk_bin | apply tk_ext | apply tk_len | apply tk_un)); (· intro w; simp [go_sem, bin]; rfl))
                 | ((with_reducible apply sp_newr hs); (· kernel_rfl); intro g w hs))
                refine cl (pool_Bytes (by have := hnx.len; have := hnx.t2; omega) (by have := hnx.size; have := hnx.b2; omega) hs) ?_
                rintro _ w ⟨rfl, hs⟩
                repeat (first
                 | (with_reducible (first | refine st_lens ?_ | refine st_eqls ?_ | refine st_nels ?_ | refine tk_eqls ?_ | refine tk_nels ?_ | refine mv.mk ?_ | refine nk_p ?_ | refine gdT_i ?_ | refine gdT_ft ?_ | refine gdT_tf ?_ | refine gdT_u ?_ | refine gd_u ?_ | refine gd_ft ?_ | refine gd_tf ?_ | refine gd_i ?_ | refine pk_t ?_ | refine pk_f ?_ | refine br_t ?_ | refine br_f ?_ | refine sp_boxa hs fun g w hs => ?_))
                 | (with_reducible ((first | apply st_bin | apply st_ext | apply st_len | apply st_un | apply st_conv | apply st_mki | apply st_fld | apply st_cap | apply st_max | apply st_min | apply st_ixv | apply st_mkf); intro k' hk; simp [go_sem, thenR_ok, bin]; refine hk _ _ ?_; clear hk k'))
                 | ((with_reducible (first | apply tk_bin | apply tk_ext | apply tk_len | apply tk_un)); (· intro w; simp [go_sem, bin]; rfl))
                 | ((with_reducible apply sp_newr hs); (· kernel_rfl); intro g w hs))
                rw [show decide (y < (sizeP p'.l : Int)) = false by simp only [decide_eq_false_iff_not]; have := hnx.size; omega]
                repeat (first
                 | (with_reducible (first | refine st_lens ?_ | refine st_eqls ?_ | refine st_nels ?_ | refine tk_eqls ?_ | refine tk_nels ?_ | refine mv.mk ?_ | refine nk_p ?_ | refine gdT_i ?_ | refine gdT_ft ?_ | refine gdT_tf ?_ | refine gdT_u ?_ | refine gd_u ?_ | refine gd_ft ?_ | refine gd_tf ?_ | refine gd_i ?_ | refine pk_t ?_ | refine pk_f ?_ | refine br_t ?_ | refine br_f ?_ | refine sp_boxa hs fun g w hs => ?_))
                 | (with_reducible ((first | apply st_bin | apply st_ext | apply st_len | apply st_un | apply st_conv | apply st_mki | apply st_fld | apply st_cap | apply st_max | apply st_min | apply st_ixv | apply st_mkf); intro k' hk; simp [go_sem, thenR_ok, bin]; refine hk _ _ ?_; clear hk k'))
                 | ((with_reducible (first | apply tk_bin | apply tk_ext | apply tk_len | apply tk_un)); (· intro w; simp [go_sem, bin]; rfl))
                 | ((with_reducible apply sp_newr hs); (· kernel_rfl); intro g w hs))
                refine sp_ldn hs (.tl (.tl (.tl (.tl (.tl .blk))))) (by kernel_rfl) (by rw [u8s_length, hH]) ?_
                repeat (first
                 | (with_reducible (first | refine st_lens ?_ | refine st_eqls ?_ | refine st_nels ?_ | refine tk_eqls ?_ | refine tk_nels ?_ | refine mv.mk ?_ | refine nk_p ?_ | refine gdT_i ?_ | refine gdT_ft ?_ | refine gdT_tf ?_ | refine gdT_u ?_ | refine gd_u ?_ | refine gd_ft ?_ | refine gd_tf ?_ | refine gd_i ?_ | refine pk_t ?_ | refine pk_f ?_ | refine br_t ?_ | refine br_f ?_ | refine sp_boxa hs fun g w hs => ?_))
                 | (with_reducible ((first | apply st_bin | apply st_ext | apply st_len | apply st_un | apply st_conv | apply st_mki | apply st_fld | apply st_cap | apply st_max | apply st_min | apply st_ixv | apply st_mkf); intro k' hk; simp [go_sem, thenR_ok, bin]; refine hk _ _ ?_; clear hk k'))
                 | ((with_reducible (first | apply tk_bin | apply tk_ext | apply tk_len | apply tk_un)); (· intro w; simp [go_sem, bin]; rfl))
                 | ((with_reducible apply sp_newr hs); (· kernel_rfl); intro g w hs))
                refine cl (pool_Has (by have := hnx.len; have := hnx.t2; omega) hH hs) ?_
                rintro _ w ⟨rfl, hs⟩
                rw [hhas]
                repeat (first
                 | (with_reducible (first | refine st_lens ?_ | refine st_eqls ?_ | refine st_nels ?_ | refine tk_eqls ?_ | refine tk_nels ?_ | refine mv.mk ?_ | refine nk_p ?_ | refine gdT_i ?_ | refine gdT_ft ?_ | refine gdT_tf ?_ | refine gdT_u ?_ | refine gd_u ?_ | refine gd_ft ?_ | refine gd_tf ?_ | refine gd_i ?_ | refine pk_t ?_ | refine pk_f ?_ | refine br_t ?_ | refine br_f ?_ | refine sp_boxa hs fun g w hs => ?_))
                 | (with_reducible ((first | apply st_bin | apply st_ext | apply st_len | apply st_un | apply st_conv | apply st_mki | apply st_fld | apply st_cap | apply st_max | apply st_min | apply st_ixv | apply st_mkf); intro k' hk; simp [go_sem, thenR_ok, bin]; refine hk _ _ ?_; clear hk k'))
                 | ((with_reducible (first | apply tk_bin | apply tk_ext | apply tk_len | apply tk_un)); (· intro w; simp [go_sem, bin]; rfl))
                 | ((with_reducible apply sp_newr hs); (· kernel_rfl); intro g w hs))
                replace hs := (hs.growF (.tl (.tl (.tl .hd)))).growF (.tl (.tl (.tl (.tl .hd))))
                refine ⟨nextSF (hB x.tx) x.fee SF, p', fv3, sv3, lv2, kv2, _, rfl, hnx, hpt2, hpb2, hBn, ?_, ?_⟩
                · have : (SF.filter fun q => !decide (q.1 = hB x.tx)).length ≤ SF.length := List.length_filter_le _ _
                  simp only [nextSF, List.length_append, List.length_cons, List.length_nil]
                  omega
                · rw [show (nextSF (hB x.tx) x.fee SF).map (·.1) = (SF.filter fun q => !decide (q.1 = hB x.tx)).map (·.1) ++ [hB x.tx] by simp [nextSF], show (nextSF (hB x.tx) x.fee SF).map (·.2) = (SF.filter fun q => !decide (q.1 = hB x.tx)).map (·.2) ++ [x.fee] by simp [nextSF]]
                  exact hs.sbl (.cons (.tl .hd) (.cons .hd (.cons .hd (.cons .hd (.cons .hd (.drop .all))))))
              · refine sp_litv hs slIT rfl fun v7 w hs => ?_
                refine ⟨hs.mayr (.drop (.drop (.drop (.drop (.drop (.drop (.cons .hd (.drop (.drop (.drop (.cons .hd .nil))))))))))), ?_⟩
                refine sp_push (ys := u8s (hB x.tx)) (a := hB x.tx) hs (.tl (.tl (.tl (.tl .hd)))) hsT (by exact .tl .sl) (by exact (.tl (.tl (.tl .hd)))) (u8s_one _) (by omega) (by omega) fun sv3 w hs => ?_
                refine ⟨hs.mayr (.drop (.drop (.drop (.drop (.drop (.drop (.cons .hd (.drop (.drop (.drop (.cons .hd .nil))))))))))), ?_⟩
                refine sp_push (ys := [.int .i64 x.fee]) (a := x.fee) hs (.tl (.tl (.tl (.tl (.tl .hd))))) slIT (by exact .tl .sl) (by exact (.tl (.tl (.tl .hd)))) hone1 (by omega) (by omega) fun fv3 w hs => ?_
                refine ⟨hs.mayr (.drop (.drop (.drop (.drop (.drop (.drop (.cons .hd (.drop (.drop (.drop (.cons .hd .nil))))))))))), ?_⟩
                replace hs := hs.sbl (L' := blkI g T.pool_Pool (poolV p' lv2 kv2) :: growI itemF T.pool_item 35 lv2 p'.l :: (listF hashF 32 kv2 p'.known).it :: growI hashF T.api_Hash 32 sv3 _ :: growI nF T.int 1 fv3 _ :: blkI g17 T.api_Hash (u8s (hB x.tx)) :: L) (.cons (.tl (.tl (.tl (.tl (.tl (.tl (.tl .hd))))))) (.cons (.tl (.tl (.tl (.tl (.tl (.tl (.tl .hd))))))) (.cons (.tl (.tl (.tl (.tl (.tl (.tl (.tl .hd))))))) (.cons (.tl .hd) (.cons .hd (.drop (.drop (.drop (.drop (.cons .hd (.drop (.drop (.drop .all)))))))))))))
                repeat with_reducible refine mv.mk ?_
                refine cl (pool_Len hs) ?_
                rintro _ w ⟨rfl, hs⟩
                repeat (first
                 | (with_reducible (first | refine st_lens ?_ | refine st_eqls ?_ | refine st_nels ?_ | refine tk_eqls ?_ | refine tk_nels ?_ | refine mv.mk ?_ | refine nk_p ?_ | refine gdT_i ?_ | refine gdT_ft ?_ | refine gdT_tf ?_ | refine gdT_u ?_ | refine gd_u ?_ | refine gd_ft ?_ | refine gd_tf ?_ | refine gd_i ?_ | refine pk_t ?_ | refine pk_f ?_ | refine br_t ?_ | refine br_f ?_ | refine sp_boxa hs fun g w hs => ?_))
                 | (with_reducible ((first | apply st_bin | apply st_ext | apply st_len | apply st_un | apply st_conv | apply st_mki | apply st_fld | apply st_cap | apply st_max | apply st_min | apply st_ixv | apply st_mkf); intro k' hk; simp [go_sem, thenR_ok, bin]; refine hk _ _ ?_; clear hk k'))
                 | ((with_reducible (first | apply tk_bin | apply tk_ext | apply tk_len | apply tk_un)); (· intro w; simp [go_sem, bin]; rfl))
                 | ((with_reducible apply sp_newr hs); (· kernel_rfl); intro g w hs))
                rw [show decide (n < (p'.l.length : Int)) = false by simp only [decide_eq_false_iff_not]; have := hnx.len; omega]
                repeat (first
                 | (with_reducible (first | refine st_lens ?_ | refine st_eqls ?_ | refine st_nels ?_ | refine tk_eqls ?_ | refine tk_nels ?_ | refine mv.mk ?_ | refine nk_p ?_ | refine gdT_i ?_ | refine gdT_ft ?_ | refine gdT_tf ?_ | refine gdT_u ?_ | refine gd_u ?_ | refine gd_ft ?_ | refine gd_tf ?_ | refine gd_i ?_ | refine pk_t ?_ | refine pk_f ?_ | refine br_t ?_ | refine br_f ?_ | refine sp_boxa hs fun g w hs => ?_))
                 | (with_reducible ((first | apply st_bin | apply st_ext | apply st_len | apply st_un | apply st_conv | apply st_mki | apply st_fld | apply st_cap | apply st_max | apply st_min | apply st_ixv | apply st_mkf); intro k' hk; simp [go_sem, thenR_ok, bin]; refine hk _ _ ?_; clear hk k'))
                 | ((with_reducible (first | apply tk_bin | apply tk_ext | apply tk_len | apply tk_un)); (· intro w; simp [go_sem, bin]; rfl))
                 | ((with_reducible apply sp_newr hs); (· kernel_rfl); intro g w hs))
                refine cl (pool_Bytes (by have := hnx.len; have := hnx.t2; omega) (by have := hnx.size; have := hnx.b2; omega) hs) ?_
                rintro _ w ⟨rfl, hs⟩
                repeat (first
                 | (with_reducible (first | refine st_lens ?_ | refine st_eqls ?_ | refine st_nels ?_ | refine tk_eqls ?_ | refine tk_nels ?_ | refine mv.mk ?_ | refine nk_p ?_ | refine gdT_i ?_ | refine gdT_ft ?_ | refine gdT_tf ?_ | refine gdT_u ?_ | refine gd_u ?_ | refine gd_ft ?_ | refine gd_tf ?_ | refine gd_i ?_ | refine pk_t ?_ | refine pk_f ?_ | refine br_t ?_ | refine br_f ?_ | refine sp_boxa hs fun g w hs => ?_))
                 | (with_reducible ((first | apply st_bin | apply st_ext | apply st_len | apply st_un | apply st_conv | apply st_mki | apply st_fld | apply st_cap | apply st_max | apply st_min | apply st_ixv | apply st_mkf); intro k' hk; simp [go_sem, thenR_ok, bin]; refine hk _ _ ?_; clear hk k'))
                 | ((with_reducible (first | apply tk_bin | apply tk_ext | apply tk_len | apply tk_un)); (· intro w; simp [go_sem, bin]; rfl))
                 | ((with_reducible apply sp_newr hs); (· kernel_rfl); intro g w hs))
                rw [show decide (y < (sizeP p'.l : Int)) = false by simp only [decide_eq_false_iff_not]; have := hnx.size; omega]
                repeat (first
                 | (with_reducible (first | refine st_lens ?_ | refine st_eqls ?_ | refine st_nels ?_ | refine tk_eqls ?_ | refine tk_nels ?_ | refine mv.mk ?_ | refine nk_p ?_ | refine gdT_i ?_ | refine gdT_ft ?_ | refine gdT_tf ?_ | refine gdT_u ?_ | refine gd_u ?_ | refine gd_ft ?_ | refine gd_tf ?_ | refine gd_i ?_ | refine pk_t ?_ | refine pk_f ?_ | refine br_t ?_ | refine br_f ?_ | refine sp_boxa hs fun g w hs => ?_))
                 | (with_reducible ((first | apply st_bin | apply st_ext | apply st_len | apply st_un | apply st_conv | apply st_mki | apply st_fld | apply st_cap | apply st_max | apply st_min | apply st_ixv | apply st_mkf); intro k' hk; simp [go_sem, thenR_ok, bin]; refine hk _ _ ?_; clear hk k'))
                 | ((with_reducible (first | apply tk_bin | apply tk_ext | apply tk_len | apply tk_un)); (· intro w; simp [go_sem, bin]; rfl))
                 | ((with_reducible apply sp_newr hs); (· kernel_rfl); intro g w hs))
                refine sp_ldn hs (.tl (.tl (.tl (.tl (.tl .blk))))) (by kernel_rfl) (by rw [u8s_length, hH]) ?_
                repeat (first
                 | (with_reducible (first | refine st_lens ?_ | refine st_eqls ?_ | refine st_nels ?_ | refine tk_eqls ?_ | refine tk_nels ?_ | refine mv.mk ?_ | refine nk_p ?_ | refine gdT_i ?_ | refine gdT_ft ?_ | refine gdT_tf ?_ | refine gdT_u ?_ | refine gd_u ?_ | refine gd_ft ?_ | refine gd_tf ?_ | refine gd_i ?_ | refine pk_t ?_ | refine pk_f ?_ | refine br_t ?_ | refine br_f ?_ | refine sp_boxa hs fun g w hs => ?_))
                 | (with_reducible ((first | apply st_bin | apply st_ext | apply st_len | apply st_un | apply st_conv | apply st_mki | apply st_fld | apply st_cap | apply st_max | apply st_min | apply st_ixv | apply st_mkf); intro k' hk; simp [go_sem, thenR_ok, bin]; refine hk _ _ ?_; clear hk k'))
                 | ((with_reducible (first | apply tk_bin | apply tk_ext | apply tk_len | apply tk_un)); (· intro w; simp [go_sem, bin]; rfl))
                 | ((with_reducible apply sp_newr hs); (· kernel_rfl); intro g w hs))
                refine cl (pool_Has (by have := hnx.len; have := hnx.t2; omega) hH hs) ?_
                rintro _ w ⟨rfl, hs⟩
                rw [hhas]
                repeat (first
                 | (with_reducible (first | refine st_lens ?_ | refine st_eqls ?_ | refine st_nels ?_ | refine tk_eqls ?_ | refine tk_nels ?_ | refine mv.mk ?_ | refine nk_p ?_ | refine gdT_i ?_ | refine gdT_ft ?_ | refine gdT_tf ?_ | refine gdT_u ?_ | refine gd_u ?_ | refine gd_ft ?_ | refine gd_tf ?_ | refine gd_i ?_ | refine pk_t ?_ | refine pk_f ?_ | refine br_t ?_ | refine br_f ?_ | refine sp_boxa hs fun g w hs => ?_))
                 | (with_reducible ((first | apply st_bin | apply st_ext | apply st_len | apply st_un | apply st_conv | apply st_mki | apply st_fld | apply st_cap | apply st_max | apply st_min | apply st_ixv | apply st_mkf); intro k' hk; simp [go_sem, thenR_ok, bin]; refine hk _ _ ?_; clear hk k'))
                 | ((with_reducible (first | apply tk_bin | apply tk_ext | apply tk_len | apply tk_un)); (· intro w; simp [go_sem, bin]; rfl))
                 | ((with_reducible apply sp_newr hs); (· kernel_rfl); intro g w hs))
                replace hs := (hs.growF (.tl (.tl (.tl .hd)))).growF (.tl (.tl (.tl (.tl .hd))))
                refine ⟨nextSF (hB x.tx) x.fee SF, p', fv3, sv3, lv2, kv2, _, rfl, hnx, hpt2, hpb2, hBn, ?_, ?_⟩
                · have : (SF.filter fun q => !decide (q.1 = hB x.tx)).length ≤ SF.length := List.length_filter_le _ _
                  simp only [nextSF, List.length_append, List.length_cons, List.length_nil]
                  omega
                · rw [show (nextSF (hB x.tx) x.fee SF).map (·.1) = (SF.filter fun q => !decide (q.1 = hB x.tx)).map (·.1) ++ [hB x.tx] by simp [nextSF], show (nextSF (hB x.tx) x.fee SF).map (·.2) = (SF.filter fun q => !decide (q.1 = hB x.tx)).map (·.2) ++ [x.fee] by simp [nextSF]]
                  exact hs.sbl (.cons (.tl .hd) (.cons .hd (.cons .hd (.cons .hd (.cons .hd (.drop .all))))))
            · refine sp_litv hs slIT rfl fun v7 w hs => ?_
              refine ⟨hs.mayr (.drop (.drop (.drop (.drop (.drop (.cons .hd (.drop (.drop (.drop (.cons .hd .nil)))))))))), ?_⟩
              refine sp_lita hs hsT (by rw [u8s_length, hH]) (by decide) fun v5 w hs => ?_
              refine ⟨hs.mayr (.drop (.drop (.drop (.drop (.drop (.drop (.cons .hd (.drop (.drop (.drop (.cons .hd .nil))))))))))), ?_⟩
              refine sp_push (ys := u8s (hB x.tx)) (a := hB x.tx) hs (.tl (.tl (.tl (.tl .hd)))) hsT (by exact .sl) (by exact (.tl (.tl (.tl .hd)))) (u8s_one _) (by omega) (by omega) fun sv3 w hs => ?_
              refine ⟨hs.mayr (.drop (.drop (.drop (.drop (.drop (.drop (.cons .hd (.drop (.drop (.drop (.cons .hd .nil))))))))))), ?_⟩
              refine sp_push (ys := [.int .i64 x.fee]) (a := x.fee) hs (.tl (.tl (.tl (.tl (.tl .hd))))) slIT (by exact .tl (.tl .sl)) (by exact (.tl (.tl (.tl .hd)))) hone1 (by omega) (by omega) fun fv3 w hs => ?_
              refine ⟨hs.mayr (.drop (.drop (.drop (.drop (.drop (.drop (.cons .hd (.drop (.drop (.drop (.cons .hd .nil))))))))))), ?_⟩
              replace hs := hs.sbl (L' := blkI g T.pool_Pool (poolV p' lv2 kv2) :: growI itemF T.pool_item 35 lv2 p'.l :: (listF hashF 32 kv2 p'.known).it :: growI hashF T.api_Hash 32 sv3 _ :: growI nF T.int 1 fv3 _ :: blkI g17 T.api_Hash (u8s (hB x.tx)) :: L) (.cons (.tl (.tl (.tl (.tl (.tl (.tl (.tl .hd))))))) (.cons (.tl (.tl (.tl (.tl (.tl (.tl (.tl .hd))))))) (.cons (.tl (.tl (.tl (.tl (.tl (.tl (.tl .hd))))))) (.cons (.tl .hd) (.cons .hd (.drop (.drop (.drop (.drop (.cons .hd (.drop (.drop (.drop .all)))))))))))))
              repeat with_reducible refine mv.mk ?_
              refine cl (pool_Len hs) ?_
              rintro _ w ⟨rfl, hs⟩
              repeat (first
               | (with_reducible (first | refine st_lens ?_ | refine st_eqls ?_ | refine st_nels ?_ | refine tk_eqls ?_ | refine tk_nels ?_ | refine mv.mk ?_ | refine nk_p ?_ | refine gdT_i ?_ | refine gdT_ft ?_ | refine gdT_tf ?_ | refine gdT_u ?_ | refine gd_u ?_ | refine gd_ft ?_ | refine gd_tf ?_ | refine gd_i ?_ | refine pk_t ?_ | refine pk_f ?_ | refine br_t ?_ | refine br_f ?_ | refine sp_boxa hs fun g w hs => ?_))
               | (with_reducible ((first | apply st_bin | apply st_ext | apply st_len | apply st_un | apply st_conv | apply st_mki | apply st_fld | apply st_cap | apply st_max | apply st_min | apply st_ixv | apply st_mkf); intro k' hk; simp [go_sem, thenR_ok, bin]; refine hk _ _ ?_; clear hk k'))
               | ((with_reducible (first | apply tk_bin | apply tk_ext | apply tk_len | apply tk_un)); (· intro w; simp [go_sem, bin]; rfl))
               | ((with_reducible apply sp_newr hs); (· kernel_rfl); intro g w hs))
              rw [show decide (n < (p'.l.length : Int)) = false by simp only [decide_eq_false_iff_not]; have := hnx.len; omega]
              repeat (first
               | (with_reducible (first | refine st_lens ?_ | refine st_eqls ?_ | refine st_nels ?_ | refine tk_eqls ?_ | refine tk_nels ?_ | refine mv.mk ?_ | refine nk_p ?_ | refine gdT_i ?_ | refine gdT_ft ?_ | refine gdT_tf ?_ | refine gdT_u ?_ | refine gd_u ?_ | refine gd_ft ?_ | refine gd_tf ?_ | refine gd_i ?_ | refine pk_t ?_ | refine pk_f ?_ | refine br_t ?_ | refine br_f ?_ | refine sp_boxa hs fun g w hs => ?_))
               | (with_reducible ((first | apply st_bin | apply st_ext | apply st_len | apply st_un | apply st_conv | apply st_mki | apply st_fld | apply st_cap | apply st_max | apply st_min | apply st_ixv | apply st_mkf); intro k' hk; simp [go_sem, thenR_ok, bin]; refine hk _ _ ?_; clear hk k'))
               | ((with_reducible (first | apply tk_bin | apply tk_ext | apply tk_len | apply tk_un)); (· intro w; simp [go_sem, bin]; rfl))
               | ((with_reducible apply sp_newr hs); (· kernel_rfl); intro g w hs))
              refine cl (pool_Bytes (by have := hnx.len; have := hnx.t2; omega) (by have := hnx.size; have := hnx.b2; omega) hs) ?_
              rintro _ w ⟨rfl, hs⟩
              repeat (first
               | (with_reducible (first | refine st_lens ?_ | refine st_eqls ?_ | refine st_nels ?_ | refine tk_eqls ?_ | refine tk_nels ?_ | refine mv.mk ?_ | refine nk_p ?_ | refine gdT_i ?_ | refine gdT_ft ?_ | refine gdT_tf ?_ | refine gdT_u ?_ | refine gd_u ?_ | refine gd_ft ?_ | refine gd_tf ?_ | refine gd_i ?_ | refine pk_t ?_ | refine pk_f ?_ | refine br_t ?_ | refine br_f ?_ | refine sp_boxa hs fun g w hs => ?_))
               | (with_reducible ((first | apply st_bin | apply st_ext | apply st_len | apply st_un | apply st_conv | apply st_mki | apply st_fld | apply st_cap | apply st_max | apply st_min | apply st_ixv | apply st_mkf); intro k' hk; simp [go_sem, thenR_ok, bin]; refine hk _ _ ?_; clear hk k'))
               | ((with_reducible (first | apply tk_bin | apply tk_ext | apply tk_len | apply tk_un)); (· intro w; simp [go_sem, bin]; rfl))
               | ((with_reducible apply sp_newr hs); (· kernel_rfl); intro g w hs))
              rw [show decide (y < (sizeP p'.l : Int)) = false by simp only [decide_eq_false_iff_not]; have := hnx.size; omega]
              repeat (first
               | (with_reducible (first | refine st_lens ?_ | refine st_eqls ?_ | refine st_nels ?_ | refine tk_eqls ?_ | refine tk_nels ?_ | refine mv.mk ?_ | refine nk_p ?_ | refine gdT_i ?_ | refine gdT_ft ?_ | refine gdT_tf ?_ | refine gdT_u ?_ | refine gd_u ?_ | refine gd_ft ?_ | refine gd_tf ?_ | refine gd_i ?_ | refine pk_t ?_ | refine pk_f ?_ | refine br_t ?_ | refine br_f ?_ | refine sp_boxa hs fun g w hs => ?_))
               | (with_reducible ((first | apply st_bin | apply st_ext | apply st_len | apply st_un | apply st_conv | apply st_mki | apply st_fld | apply st_cap | apply st_max | apply st_min | apply st_ixv | apply st_mkf); intro k' hk; simp [go_sem, thenR_ok, bin]; refine hk _ _ ?_; clear hk k'))
               | ((with_reducible (first | apply tk_bin | apply tk_ext | apply tk_len | apply tk_un)); (· intro w; simp [go_sem, bin]; rfl))
               | ((with_reducible apply sp_newr hs); (· kernel_rfl); intro g w hs))
              refine sp_ldn hs (.tl (.tl (.tl (.tl (.tl .blk))))) (by kernel_rfl) (by rw [u8s_length, hH]) ?_
              repeat (first
               | (with_reducible (first | refine st_lens ?_ | refine st_eqls ?_ | refine st_nels ?_ | refine tk_eqls ?_ | refine tk_nels ?_ | refine mv.mk ?_ | refine nk_p ?_ | refine gdT_i ?_ | refine gdT_ft ?_ | refine gdT_tf ?_ | refine gdT_u ?_ | refine gd_u ?_ | refine gd_ft ?_ | refine gd_tf ?_ | refine gd_i ?_ | refine pk_t ?_ | refine pk_f ?_ | refine br_t ?_ | refine br_f ?_ | refine sp_boxa hs fun g w hs => ?_))
               | (with_reducible ((first | apply st_bin | apply st_ext | apply st_len | apply st_un | apply st_conv | apply st_mki | apply st_fld | apply st_cap | apply st_max | apply st_min | apply st_ixv | apply st_mkf); intro k' hk; simp [go_sem, thenR_ok, bin]; refine hk _ _ ?_; clear hk k'))
               | ((with_reducible (first | apply tk_bin | apply tk_ext | apply tk_len | apply tk_un)); (· intro w; simp [go_sem, bin]; rfl))
               | ((with_reducible apply sp_newr hs); (· kernel_rfl); intro g w hs))
              refine cl (pool_Has (by have := hnx.len; have := hnx.t2; omega) hH hs) ?_
              rintro _ w ⟨rfl, hs⟩
              rw [hhas]
              repeat (first
               | (with_reducible (first | refine st_lens ?_ | refine st_eqls ?_ | refine st_nels ?_ | refine tk_eqls ?_ | refine tk_nels ?_ | refine mv.mk ?_ | refine nk_p ?_ | refine gdT_i ?_ | refine gdT_ft ?_ | refine gdT_tf ?_ | refine gdT_u ?_ | refine gd_u ?_ | refine gd_ft ?_ | refine gd_tf ?_ | refine gd_i ?_ | refine pk_t ?_ | refine pk_f ?_ | refine br_t ?_ | refine br_f ?_ | refine sp_boxa hs fun g w hs => ?_))
               | (with_reducible ((first | apply st_bin | apply st_ext | apply st_len | apply st_un | apply st_conv | apply st_mki | apply st_fld | apply st_cap | apply st_max | apply st_min | apply st_ixv | apply st_mkf); intro k' hk; simp [go_sem, thenR_ok, bin]; refine hk _ _ ?_; clear hk k'))
               | ((with_reducible (first | apply tk_bin | apply tk_ext | apply tk_len | apply tk_un)); (· intro w; simp [go_sem, bin]; rfl))
               | ((with_reducible apply sp_newr hs); (· kernel_rfl); intro g w hs))
              replace hs := (hs.growF (.tl (.tl (.tl .hd)))).growF (.tl (.tl (.tl (.tl .hd))))
              refine ⟨nextSF (hB x.tx) x.fee SF, p', fv3, sv3, lv2, kv2, _, rfl, hnx, hpt2, hpb2, hBn, ?_, ?_⟩
              · have : (SF.filter fun q => !decide (q.1 = hB x.tx)).length ≤ SF.length := List.length_filter_le _ _
                simp only [nextSF, List.length_append, List.length_cons, List.length_nil]
                omega
              · rw [show (nextSF (hB x.tx) x.fee SF).map (·.1) = (SF.filter fun q => !decide (q.1 = hB x.tx)).map (·.1) ++ [hB x.tx] by simp [nextSF], show (nextSF (hB x.tx) x.fee SF).map (·.2) = (SF.filter fun q => !decide (q.1 = hB x.tx)).map (·.2) ++ [x.fee] by simp [nextSF]]
                exact hs.sbl (.cons (.tl .hd) (.cons .hd (.cons .hd (.cons .hd (.cons .hd (.drop .all))))))
    · rintro x2 w ⟨SF, p, fv, sv, lv, kv, zs, hx2, ok, hpt, hpb, hBI, hSF, hs⟩
      simp only [List.cons.injEq] at hx2
      repeat (first
       | (with_reducible (first | refine st_lens ?_ | refine st_eqls ?_ | refine st_nels ?_ | refine tk_eqls ?_ | refine tk_nels ?_ | refine mv.mk ?_ | refine nk_p ?_ | refine gdT_i ?_ | refine gdT_ft ?_ | refine gdT_tf ?_ | refine gdT_u ?_ | refine gd_u ?_ | refine gd_ft ?_ | refine gd_tf ?_ | refine gd_i ?_ | refine pk_t ?_ | refine pk_f ?_ | refine br_t ?_ | refine br_f ?_ | refine sp_boxa hs fun g w hs => ?_))
       | (with_reducible ((first | apply st_bin | apply st_ext | apply st_len | apply st_un | apply st_conv | apply st_mki | apply st_fld | apply st_cap | apply st_max | apply st_min | apply st_ixv | apply st_mkf); intro k' hk; simp [go_sem, thenR_ok, bin]; refine hk _ _ ?_; clear hk k'))
       | ((with_reducible (first | apply tk_bin | apply tk_ext | apply tk_len | apply tk_un)); (· intro w; simp [go_sem, bin]; rfl))
       | ((with_reducible apply sp_newr hs); (· kernel_rfl); intro g w hs))
      rw [i64_succ (by omega)]
      refine ⟨⟨i + 1, _, by omega, SF, p, x2 9, x2 10, lv, kv, by rw [hx2.1], ok, hpt, hpb, hBI, hSF, ?_⟩, by simp; omega⟩
      rw [hx2.2.1, hx2.2.2.1]
      exact hs
  · by_cases h2 : i < l.length
    · rw [decide_eq_true h2]
      repeat (first
       | (with_reducible (first | refine st_lens ?_ | refine st_eqls ?_ | refine st_nels ?_ | refine tk_eqls ?_ | refine tk_nels ?_ | refine mv.mk ?_ | refine nk_p ?_ | refine gdT_i ?_ | refine gdT_ft ?_ | refine gdT_tf ?_ | refine gdT_u ?_ | refine gd_u ?_ | refine gd_ft ?_ | refine gd_tf ?_ | refine gd_i ?_ | refine pk_t ?_ | refine pk_f ?_ | refine br_t ?_ | refine br_f ?_ | refine sp_boxa hs fun g w hs => ?_))
       | (with_reducible ((first | apply st_bin | apply st_ext | apply st_len | apply st_un | apply st_conv | apply st_mki | apply st_fld | apply st_cap | apply st_max | apply st_min | apply st_ixv | apply st_mkf); intro k' hk; simp [go_sem, thenR_ok, bin]; refine hk _ _ ?_; clear hk k'))
       | ((with_reducible (first | apply tk_bin | apply tk_ext | apply tk_len | apply tk_un)); (· intro w; simp [go_sem, bin]; rfl))
       | ((with_reducible apply sp_newr hs); (· kernel_rfl); intro g w hs))
      rw [show decide ((i : Int) < 60) = false by simp; omega]
      repeat (first
       | (with_reducible (first | refine st_lens ?_ | refine st_eqls ?_ | refine st_nels ?_ | refine tk_eqls ?_ | refine tk_nels ?_ | refine mv.mk ?_ | refine nk_p ?_ | refine gdT_i ?_ | refine gdT_ft ?_ | refine gdT_tf ?_ | refine gdT_u ?_ | refine gd_u ?_ | refine gd_ft ?_ | refine gd_tf ?_ | refine gd_i ?_ | refine pk_t ?_ | refine pk_f ?_ | refine br_t ?_ | refine br_f ?_ | refine sp_boxa hs fun g w hs => ?_))
       | (with_reducible ((first | apply st_bin | apply st_ext | apply st_len | apply st_un | apply st_conv | apply st_mki | apply st_fld | apply st_cap | apply st_max | apply st_min | apply st_ixv | apply st_mkf); intro k' hk; simp [go_sem, thenR_ok, bin]; refine hk _ _ ?_; clear hk k'))
       | ((with_reducible (first | apply tk_bin | apply tk_ext | apply tk_len | apply tk_un)); (· intro w; simp [go_sem, bin]; rfl))
       | ((with_reducible apply sp_newr hs); (· kernel_rfl); intro g w hs))
      refine cl (isthmuslaw18_sure hs (.tl (.tl (.tl (.tl (.tl hT))))) (.tl (.tl (.tl (.tl (.tl hR)))))) ?_
      rintro _ w ⟨rfl, hs⟩
      repeat with_reducible refine mv.mk ?_
      exact ⟨rfl, hs.sbl (.drop (.drop (.drop (.drop (.drop .all)))))⟩
    · rw [decide_eq_false h2]
      repeat (first
       | (with_reducible (first | refine st_lens ?_ | refine st_eqls ?_ | refine st_nels ?_ | refine tk_eqls ?_ | refine tk_nels ?_ | refine mv.mk ?_ | refine nk_p ?_ | refine gdT_i ?_ | refine gdT_ft ?_ | refine gdT_tf ?_ | refine gdT_u ?_ | refine gd_u ?_ | refine gd_ft ?_ | refine gd_tf ?_ | refine gd_i ?_ | refine pk_t ?_ | refine pk_f ?_ | refine br_t ?_ | refine br_f ?_ | refine sp_boxa hs fun g w hs => ?_))
       | (with_reducible ((first | apply st_bin | apply st_ext | apply st_len | apply st_un | apply st_conv | apply st_mki | apply st_fld | apply st_cap | apply st_max | apply st_min | apply st_ixv | apply st_mkf); intro k' hk; simp [go_sem, thenR_ok, bin]; refine hk _ _ ?_; clear hk k'))
       | ((with_reducible (first | apply tk_bin | apply tk_ext | apply tk_len | apply tk_un)); (· intro w; simp [go_sem, bin]; rfl))
       | ((with_reducible apply sp_newr hs); (· kernel_rfl); intro g w hs))
      refine cl (isthmuslaw18_sure hs (.tl (.tl (.tl (.tl (.tl hT))))) (.tl (.tl (.tl (.tl (.tl hR)))))) ?_
      rintro _ w ⟨rfl, hs⟩
      repeat with_reducible refine mv.mk ?_
      exact ⟨rfl, hs.sbl (.drop (.drop (.drop (.drop (.drop .all)))))⟩
end
end Go.Proofs.YtgagekffmamldaaDoor
set_option linter.unusedVariables false
set_option linter.unusedSimpArgs false
set_option linter.unusedSectionVars false
namespace Go.Proofs.YtgagekffmamldaaDoor
open Go Go.Isk Go.RowKit
theorem poolBoundsW {b : Base} {w : World} {L : List It} {cs : List Value} {x : Size8} {lv : Value} {l : List Act8} (hs : Isk.Sep b w L) (hT : Ins L errT.it) (hR : Ins L rndF.it) (hx : Ins L (size8F cs x).it) (hl : Ins L (listF act8F 5 lv l).it) (hB : (l.map act8M).sum + 1 ≤ 1048576) :
    C Tryd.prog N.isthmuslaw18_PoolBounds #[.agg cs.toArray, lv] w fun r w' => r = .bool true ∧ Isk.Sep b w' L := by
  obtain rfl : cs = size8C (.int .i64 x.a) (.int .i64 x.c) (.int .i64 x.d) := hs.get hx
  exact isthmuslaw18_PoolBounds hs hT hR hl fun y hy => by
    have := act8_small hB y hy
    have h2 : y.tx.length + 1 ≤ act8M y := Nat.le_max_left ..
    omega
end Go.Proofs.YtgagekffmamldaaDoor
