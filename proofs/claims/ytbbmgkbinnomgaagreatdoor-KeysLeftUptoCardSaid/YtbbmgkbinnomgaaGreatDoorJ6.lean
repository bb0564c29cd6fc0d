/- A signer whose counter's file does not fail. -/
import Derived.Test.YtbbmgkbinnomgaaGreatDoorJ5
import Derived.Test.YtbbmgkbinnomgaaGreatDoorFO
import Derived.Test.YtbbmgkbinnomgaaGreatDoorKI
set_option linter.unusedVariables false
set_option linter.unusedSimpArgs false
set_option linter.unusedSectionVars false
namespace Go.Proofs.YtbbmgkbinnomgaaGreatDoor
open Go Go.Isk Go.RowKit
set_option maxRecDepth 20000
/-! ### plain -/
def goodZ (z : FsD) (name : Bytes) (n : Nat) : Prop := z.armed = false ∧ z.down = false ∧ (z.m = [] ∨ ∃ x : FileD, z.m = [(name, x)] ∧ x.1.length ≤ 100 * n)
theorem goodZ.ready {z : FsD} {name : Bytes} {n : Nat} (h : goodZ z name n) (hn : namedF name = true) : readyE z [name] = 0 := by
  unfold readyE
  simp [hn, h.2.1]
theorem goodZ.step {z : FsD} {name : Bytes} {n : Nat} (h : goodZ z name n) : (stepF z).2 = 0 ∧ (stepF z).1.armed = false ∧ (stepF z).1.down = false ∧ (stepF z).1.m = z.m := by
  unfold stepF
  rw [if_neg (by rw [h.1]; simp)]
  exact ⟨rfl, h.1, h.2.1, rfl⟩
theorem good_append {z : FsD} {name bts : Bytes} {n : Nat} (h : goodZ z name n) (hn : namedF name = true) (hb : bts.length ≤ 100) (hN : n ≤ 10000) :
    (appendF z name bts).2 = 0 ∧ goodZ (appendF z name bts).1 name (n + 1) ∧ ∃ x, (appendF z name bts).1.m = [(name, x)] := by
  unfold appendF
  rw [h.ready hn, if_neg (by simp)]
  obtain ⟨h1, h2, h3⟩ := h
  rcases h3 with h3 | ⟨x, h3, h4⟩
  · rw [h3, if_neg (by simp), if_neg (by simp [lookM]; omega)]
    unfold stepF
    rw [if_neg (by simp [h1])]
    exact ⟨rfl, ⟨h1, h2, .inr ⟨_, rfl, by simp [lookM]; omega⟩⟩, _, rfl⟩
  · have hl : lookM name [(name, x)] = some x := by simp [lookM]
    have hp : ∀ y, putM name y [(name, x)] = [(name, y)] := fun y => by simp [putM]
    rw [h3, hl, if_neg (by simp), if_neg (by simp; omega), hp]
    unfold stepF
    rw [if_neg (by simp [h1])]
    exact ⟨rfl, ⟨h1, h2, .inr ⟨_, rfl, by simp; omega⟩⟩, _, rfl⟩
theorem good_sync {z : FsD} {name : Bytes} {n : Nat} (h : goodZ z name n) (hn : namedF name = true) (hx : ∃ x, z.m = [(name, x)]) :
    (syncF z name).2 = 0 ∧ goodZ (syncF z name).1 name n := by
  obtain ⟨x, hx⟩ := hx
  have hr := h.ready hn
  obtain ⟨s1, s2, s3, s4⟩ := h.step
  have hl : lookM name z.m = some x := by rw [hx]; simp [lookM]
  have hE : findE z name = 0 := by
    unfold findE
    rw [hr, if_neg (by simp), hl]
    rfl
  have hF : findF z name = x := by
    unfold findF
    rw [hE, if_neg (by simp), hl]
    rfl
  unfold syncF changeF
  rw [hE, if_neg (by simp), s1, if_neg (by simp), hF]
  refine ⟨rfl, s2, s3, .inr ⟨(x.1, (x.1.length : Int)), ?_, ?_⟩⟩
  · show putM name _ (stepF z).1.m = _
    rw [s4, hx]
    simp [putM]
  · rcases h.2.2 with h3 | ⟨y, h3, h4⟩
    · rw [hx] at h3; cases h3
    · rw [hx] at h3
      simp only [List.cons.injEq, Prod.mk.injEq, true_and, and_true] at h3
      rw [h3]; exact h4
theorem new_good (name : Bytes) : goodZ newF name 0 := ⟨rfl, rfl, .inl rfl⟩
theorem new_find {name : Bytes} (hn : namedF name = true) : findE newF name = 8 := by
  unfold findE
  rw [(new_good name).ready hn, if_neg (by simp)]
  rfl
theorem frameB_len (p : Bytes) : (frameB p).length = p.length + 12 := by
  have hh : (headB p.length).length = 8 := rfl
  unfold frameB sealB
  rw [List.length_append, List.length_append, hh, outW_len]
  omega
/-! ### the signer -/
abbrev sgV (gf : Nat) (name seed : Bytes) (dg dp : Int) (lv : Value) (used : Nat) (dead : Value) : List Value := signerC (.pointer (some ⟨gf, 0, none⟩)) (str name) (u8s seed) [.int .i64 dg, .int .i64 dp] lv (.int .i64 (used : Int)) dead
section
variable {b : Base} {w : World} {L R : List It} {g gf gm n used : Nat} {v lv dead tv : Value} {name seed text : Bytes} {dg dp : Int} {z : FsD} {leaves : List Bytes}
theorem sg_two : ([.int .i64 dg, .int .i64 dp] : List Value).length = 2 := rfl
theorem keys_count_none (hsd : seed.length = 32) (hnl : name.length ≤ 1000) (hE : findE z name = 8) (hfl : (findF z name).1.length ≤ 1000000000) (hs : Isk.Sep b w (blkI g T.keys_Signer (sgV gf name seed dg dp lv used dead) :: blkI gf T.files_FS (fsV gm z) :: mapI fileF gm z.m :: L)) :
    C Tryz.prog N.keys_Signer_count #[.pointer (some ⟨g, 0, none⟩)] w fun r w' => r = .nilIface ∧ Isk.Sep b w' (blkI g T.keys_Signer (sgV gf name seed dg dp lv used dead) :: blkI gf T.files_FS (fsV gm z) :: mapI fileF gm z.m :: L) := by
  have hsl : (u8s seed).length = 32 := (u8s_length _).trans hsd
  have hp2 := sg_two (dg := dg) (dp := dp)
  refine C.keys_Signer_count ?_
  unfold F.keys_Signer_count
  repeat with_reducible refine mv.mk ?_
  replace hs := hs.drew
  refine dr_can (R := [blkI g T.keys_Signer (sgV gf name seed dg dp lv used dead)]) hs (.cons .hd .nil) ?_
  have hS : ∀ w, Mayr [blkI g T.keys_Signer (sgV gf name seed dg dp lv used dead)] w → Mayr [blkI g T.keys_Signer (sgV gf name seed dg dp lv used dead)] w := fun _ h => h
  repeat (first
   | (with_reducible refine signer.a0 ?_)
   | ((with_reducible apply signer.r0 hs); (· (with_reducible (repeat (first | exact .blk | exact .rng | apply Rng.tl)))))
   | (with_reducible refine signer.c0 ?_)
   | ((with_reducible apply signer.e0); (· first | exact hS | exact hid); (· (with_reducible (repeat (first | exact .blk | exact .rng | apply Rng.tl)))))
   | (with_reducible refine signer.a1 ?_)
   | ((with_reducible apply signer.r1 hs); (· (with_reducible (repeat (first | exact .blk | exact .rng | apply Rng.tl)))))
   | (with_reducible refine signer.c1 ?_)
   | ((with_reducible apply signer.e1); (· first | exact hS | exact hid); (· (with_reducible (repeat (first | exact .blk | exact .rng | apply Rng.tl)))))
   | (with_reducible refine signer.a4 ?_)
   | ((with_reducible apply signer.r4 hs); (· (with_reducible (repeat (first | exact .blk | exact .rng | apply Rng.tl)))); (repeat (· (with_reducible (first | assumption | exact z32 | exact u8s_len (by assumption))))))
   | (with_reducible refine signer.c4 ?_)
   | ((with_reducible apply signer.e4); (· first | exact hS | exact hid); (· (with_reducible (repeat (first | exact .blk | exact .rng | apply Rng.tl)))); (repeat (· (with_reducible (first | assumption | exact z32 | exact u8s_len (by assumption))))))
   | (with_reducible refine signer.a5 ?_)
   | ((with_reducible apply signer.r5 hs); (· (with_reducible (repeat (first | exact .blk | exact .rng | apply Rng.tl)))); (repeat (· (with_reducible (first | assumption | exact z32 | exact u8s_len (by assumption))))))
   | (with_reducible refine signer.c5 ?_)
   | ((with_reducible apply signer.e5); (· first | exact hS | exact hid); (· (with_reducible (repeat (first | exact .blk | exact .rng | apply Rng.tl)))); (repeat (· (with_reducible (first | assumption | exact z32 | exact u8s_len (by assumption))))))
   | (with_reducible (first | refine st_lens ?_ | refine st_nels ?_ | refine mv.mk ?_ | refine nk_p ?_ | refine gd_u ?_ | refine gd_ft ?_ | refine gd_tf ?_ | refine gd_i ?_ | refine pk_t ?_ | refine pk_f ?_ | refine br_t ?_ | refine br_f ?_))
   | (with_reducible ((first | apply st_bin | apply st_ext | apply st_len | apply st_un | apply st_conv | apply st_mki); intro k' hk; simp [go_sem, thenR_ok, bin]; refine hk _ _ ?_; clear hk k'))
   | ((with_reducible (first | apply tk_ext)); (· intro w; simp [go_sem, bin]; rfl)))
  refine cl (files_Read (name := name) (hs.sbl (.cons (.tl .hd) (.cons (.tl .hd) .all))) (by omega) hfl) ?_
  rintro _ w ⟨bv, e, rfl, hs⟩
  refine ⟨hs.mayr (.drop (.drop (.drop (.drop (.cons .hd .nil))))), ?_⟩
  repeat (first
   | (with_reducible (first | refine st_lens ?_ | refine st_nels ?_ | refine mv.mk ?_ | refine nk_p ?_ | refine gd_u ?_ | refine gd_ft ?_ | refine gd_tf ?_ | refine gd_i ?_ | refine pk_t ?_ | refine pk_f ?_ | refine br_t ?_ | refine br_f ?_))
   | (with_reducible ((first | apply st_bin | apply st_ext | apply st_len | apply st_un | apply st_conv | apply st_mki); intro k' hk; simp [go_sem, thenR_ok, bin]; refine hk _ _ ?_; clear hk k'))
   | ((with_reducible (first | apply tk_ext)); (· intro w; simp [go_sem, bin]; rfl)))
  refine cl (errors_Is (m := 8) hs (.tl .hd) (by decide)) ?_
  rintro _ w ⟨rfl, hs⟩
  rw [hE, decide_eq_true rfl]
  repeat (first
   | (with_reducible (first | refine st_lens ?_ | refine st_nels ?_ | refine mv.mk ?_ | refine nk_p ?_ | refine gd_u ?_ | refine gd_ft ?_ | refine gd_tf ?_ | refine gd_i ?_ | refine pk_t ?_ | refine pk_f ?_ | refine br_t ?_ | refine br_f ?_))
   | (with_reducible ((first | apply st_bin | apply st_ext | apply st_len | apply st_un | apply st_conv | apply st_mki); intro k' hk; simp [go_sem, thenR_ok, bin]; refine hk _ _ ?_; clear hk k'))
   | ((with_reducible (first | apply tk_ext)); (· intro w; simp [go_sem, bin]; rfl)))
  exact ⟨rfl, hs.sbl (.cons (.tl (.tl (.tl (.tl .hd)))) (.cons (.tl (.tl .hd)) (.cons (.tl (.tl .hd)) (.drop (.drop .all)))))⟩
theorem keys_Open_new (hR : Ins L rndF.it) (hsd : seed.length = 32) (hk : kCheck dg dp = 0) (hnl : name.length ≤ 1000) (hE : findE z name = 8) (hfl : (findF z name).1.length ≤ 1000000000) (hs : Isk.Sep b w (blkI gf T.files_FS (fsV gm z) :: mapI fileF gm z.m :: L)) :
    C Tryz.prog N.keys_Open #[.pointer (some ⟨gf, 0, none⟩), str name, .agg (u8s seed).toArray, .agg #[.int .i64 dg, .int .i64 dp]] w fun r w' => ∃ g lv, r = .tuple #[.pointer (some ⟨g, 0, none⟩), .nilIface] ∧ Isk.Sep b w' (blkI g T.keys_Signer (sgV gf name seed dg dp lv 0 .nilIface) :: blkI gf T.files_FS (fsV gm z) :: mapI fileF gm z.m :: (listF hshF 32 lv (leavesB seed dg.toNat (2 ^ dp.toNat))).it :: L) := by
  have hsl : (u8s seed).length = 32 := (u8s_length _).trans hsd
  refine C.keys_Open ?_
  unfold F.keys_Open
  refine sp_boxa hs fun g6 w hs => ?_
  refine sp_box (cs := [.int .i64 dg, .int .i64 dp]) hs rfl fun g7 w hs => ?_
  repeat with_reducible refine mv.mk ?_
  refine sp_ldn hs (.tl .blk) (by kernel_rfl) hsl ?_
  refine sp_loadall hs .hd (by kernel_rfl) rfl ?_
  refine cl (keys_leaves (dg := dg) (dp := dp) hs (.tl (.tl (.tl (.tl hR)))) hsd) ?_
  rintro _ w ⟨lv, e, rfl, hs⟩
  rw [hk, if_pos rfl] at hs
  obtain ⟨A, c, rfl⟩ := hs.lst_len (Ins.lst (.tl .hd))
  repeat (first
   | (with_reducible (first | refine st_nels ?_ | refine mv.mk ?_ | refine br_t ?_ | refine br_f ?_ | refine sp_boxa hs fun g w hs => ?_))
   | (with_reducible ((first | apply st_bin | apply st_ext); intro k' hk; simp [go_sem, thenR_ok, bin]; refine hk _ _ ?_; clear hk k')))
  refine st_of (err_neq hs .hd) ?_
  refine br_f ?_
  repeat with_reducible refine mv.mk ?_
  refine sp_ldn hs (.tl (.tl (.tl .blk))) (by kernel_rfl) hsl ?_
  refine sp_ldn (cs := [.int .i64 dg, .int .i64 dp]) hs (.tl (.tl .blk)) (by kernel_rfl) rfl ?_
  repeat with_reducible refine mv.mk ?_
  refine st_lit (ss := [1, 1, 32, 2, 1]) (n := 39) [.pointer (some ⟨gf, 0, none⟩), str name, .agg (u8s seed).toArray, .agg #[.int .i64 dg, .int .i64 dp], .slice A (leavesB seed dg.toNat (2 ^ dp.toNat)).length c] rfl (by simp [Value.cells, hsl, str]) (by kernel_rfl) fun zs hz h0 => ?_
  have hzs : zs = signerC (.pointer none) (str []) (u8s (List.replicate 32 0)) [.int .i64 0, .int .i64 0] (.slice none 0 0) (.int .i64 0) .nilIface := zeroT_eq h0 (zeroT_of (by kernel_rfl))
  have hcs : ((([.pointer (some ⟨gf, 0, none⟩), str name, .agg (u8s seed).toArray, .agg #[.int .i64 dg, .int .i64 dp], .slice A (leavesB seed dg.toNat (2 ^ dp.toNat)).length c] : List Value).map (·.cells.toList)).flatten ++ zs.drop ([1, 1, 32, 2, 1] : List Nat).sum) = sgV gf name seed dg dp (.slice A (leavesB seed dg.toNat (2 ^ dp.toNat)).length c) 0 .nilIface := by
    rw [hzs]
    have hd : (signerC (.pointer none) (str []) (u8s (List.replicate 32 0)) [.int .i64 0, .int .i64 0] (.slice none 0 0) (.int .i64 0) .nilIface).drop 37 = [.int .i64 0, .nilIface] := rfl
    show _ ++ (signerC (.pointer none) (str []) (u8s (List.replicate 32 0)) [.int .i64 0, .int .i64 0] (.slice none 0 0) (.int .i64 0) .nilIface).drop 37 = _
    rw [hd]
    simp [signerC, Value.cells, str]
  rw [hcs]
  refine sp_boxa hs fun g w hs => ?_
  repeat with_reducible refine mv.mk ?_
  refine cl (keys_count_none hsd hnl hE hfl (hs.sbl (.cons .hd (.cons (.tl (.tl (.tl (.tl .hd)))) (.cons (.tl (.tl (.tl (.tl .hd)))) .all))))) ?_
  rintro _ w ⟨rfl, hs⟩
  repeat (first
   | (with_reducible (first | refine st_nels ?_ | refine mv.mk ?_ | refine br_t ?_ | refine br_f ?_ | refine sp_boxa hs fun g w hs => ?_))
   | (with_reducible ((first | apply st_bin | apply st_ext); intro k' hk; simp [go_sem, thenR_ok, bin]; refine hk _ _ ?_; clear hk k')))
  exact ⟨g, _, rfl, hs.sbl (.cons .hd (.cons .hd (.cons .hd (.cons (.tl .hd) (.drop (.drop (.drop .all)))))))⟩
theorem keys_Left (hs : Isk.Sep b w (blkI g T.keys_Signer (sgV gf name seed dg dp lv used dead) :: L)) (hsd : seed.length = 32) (hl : Ins L (listF hshF 32 lv leaves).it) (hn : leaves.length ≤ 1000000) (hu : used ≤ leaves.length) :
    C Tryz.prog N.keys_Signer_Left #[.pointer (some ⟨g, 0, none⟩)] w fun r w' => r = .int .i64 ((leaves.length - used : Nat) : Int) ∧ Isk.Sep b w' (blkI g T.keys_Signer (sgV gf name seed dg dp lv used dead) :: L) := by
  have hsl : (u8s seed).length = 32 := (u8s_length _).trans hsd
  have hp2 := sg_two (dg := dg) (dp := dp)
  obtain ⟨A, c, rfl⟩ := hs.lst_len (Ins.lst (.tl hl))
  refine C.keys_Signer_Left ?_
  unfold F.keys_Signer_Left
  have hmm := hs.drew.mayr .all
  have hS : ∀ w', w' = w.drew → Mayr _ w' := fun w' e => e.symm ▸ hmm
  repeat (first
   | (with_reducible refine signer.c4 ?_)
   | ((with_reducible apply signer.e4); (· first | exact hS | exact hid); (· (with_reducible (repeat (first | exact .blk | exact .rng | apply Rng.tl)))); (repeat (· (with_reducible (first | assumption | exact z32 | exact u8s_len (by assumption))))))
   | (with_reducible refine signer.c5 ?_)
   | ((with_reducible apply signer.e5); (· first | exact hS | exact hid); (· (with_reducible (repeat (first | exact .blk | exact .rng | apply Rng.tl)))); (repeat (· (with_reducible (first | assumption | exact z32 | exact u8s_len (by assumption))))))
   | (with_reducible (first | refine st_lens ?_ | refine st_eqls ?_ | refine mv.mk ?_ | refine nk_p ?_ | refine br_t ?_ | refine br_f ?_))
   | (with_reducible ((first | apply st_bin | apply st_len); intro k' hk; simp [go_sem, thenR_ok, bin]; refine hk _ _ ?_; clear hk k'))
   | ((with_reducible (first | apply tk_bin | apply tk_len)); (· intro w; simp [go_sem, bin]; rfl)))
  rw [show IntKind.i64.wrap ((leaves.length : Int) - (used : Int)) = ((leaves.length - used : Nat) : Int) by simp [IntKind.wrap, IntKind.signed, IntKind.bits]; omega]
  exact ⟨rfl, hs.drew⟩
theorem keys_SRoot (hs : Isk.Sep b w (blkI g T.keys_Signer (sgV gf name seed dg dp lv used dead) :: L)) (hR : Ins L rndF.it) (hsd : seed.length = 32) (hl : Ins L (listF hshF 32 lv leaves).it) (hn : leaves.length ≤ 1000000) :
    C Tryz.prog N.keys_Signer_Root #[.pointer (some ⟨g, 0, none⟩)] w fun r w' => r = .agg (u8s (rootB leaves)).toArray ∧ Isk.Sep b w' (blkI g T.keys_Signer (sgV gf name seed dg dp lv used dead) :: L) := by
  have hsl : (u8s seed).length = 32 := (u8s_length _).trans hsd
  have hp2 := sg_two (dg := dg) (dp := dp)
  have h32 := hshs_len hs (.tl hl)
  refine C.keys_Signer_Root ?_
  unfold F.keys_Signer_Root
  refine sp_newr hs (by kernel_rfl) fun g2 w hs => ?_
  repeat (first
   | (with_reducible refine signer.a4 ?_)
   | ((with_reducible apply signer.r4 hs); (· (with_reducible (repeat (first | exact .blk | exact .rng | apply Rng.tl)))); (repeat (· (with_reducible (first | assumption | exact z32 | exact u8s_len (by assumption))))))
   | (with_reducible (first | refine st_eqls ?_ | refine mv.mk ?_ | refine nk_p ?_ | refine br_t ?_ | refine br_f ?_))
   | (with_reducible ((first | apply st_bin); intro k' hk; simp [go_sem, thenR_ok, bin]; refine hk _ _ ?_; clear hk k'))
   | ((with_reducible apply sp_newr hs); (· kernel_rfl); intro g w hs))
  refine cl (sha_Root _ rfl hs (.tl (.tl hR)) (.tl (.tl hl)) (by omega)) ?_
  rintro _ w ⟨rfl, hs⟩
  refine sp_ret hs .hd (by kernel_rfl) ((u8s_length _).trans (rootB_len _ rfl h32)) (u8s_one _) fun w hs => ?_
  exact ⟨rfl, hs⟩
theorem keys_reserve (hsd : seed.length = 32) (hnm : namedF name = true) (hz : goodZ z name n) (hN : n ≤ 10000) (hu : used < 10000) (hs : Isk.Sep b w (blkI g T.keys_Signer (sgV gf name seed dg dp lv used dead) :: blkI gf T.files_FS (fsV gm z) :: mapI fileF gm z.m :: L)) :
    C Tryz.prog N.keys_Signer_reserve #[.pointer (some ⟨g, 0, none⟩)] w fun r w' => r = .nilIface ∧ ∃ z', goodZ z' name (n + 1) ∧ Isk.Sep b w' (blkI g T.keys_Signer (sgV gf name seed dg dp lv used dead) :: blkI gf T.files_FS (fsV gm z') :: mapI fileF gm z'.m :: L) := by
  have hsl : (u8s seed).length = 32 := (u8s_length _).trans hsd
  have hp2 := sg_two (dg := dg) (dp := dp)
  have hnl : name.length ≤ 64 := by
    unfold namedF at hnm
    simp at hnm
    omega
  have l1 := encU_two (n := used + 1) (by omega)
  have l0 := encU_pos (used + 1)
  refine C.keys_Signer_reserve ?_
  unfold F.keys_Signer_reserve
  repeat with_reducible refine mv.mk ?_
  replace hs := hs.drew
  refine dr_can (R := [blkI g T.keys_Signer (sgV gf name seed dg dp lv used dead)]) hs (.cons .hd .nil) ?_
  have hS : ∀ w, Mayr [blkI g T.keys_Signer (sgV gf name seed dg dp lv used dead)] w → Mayr [blkI g T.keys_Signer (sgV gf name seed dg dp lv used dead)] w := fun _ h => h
  repeat (first
   | (with_reducible refine signer.c0 ?_)
   | ((with_reducible apply signer.e0); (· first | exact hS | exact hid); (· (with_reducible (repeat (first | exact .blk | exact .rng | apply Rng.tl)))))
   | (with_reducible refine signer.c1 ?_)
   | ((with_reducible apply signer.e1); (· first | exact hS | exact hid); (· (with_reducible (repeat (first | exact .blk | exact .rng | apply Rng.tl)))))
   | (with_reducible refine signer.c5 ?_)
   | ((with_reducible apply signer.e5); (· first | exact hS | exact hid); (· (with_reducible (repeat (first | exact .blk | exact .rng | apply Rng.tl)))); (repeat (· (with_reducible (first | assumption | exact z32 | exact u8s_len (by assumption))))))
   | (with_reducible (first | refine st_nels ?_ | refine mv.mk ?_ | refine nk_p ?_ | refine br_t ?_ | refine br_f ?_))
   | (with_reducible ((first | apply st_bin | apply st_ext | apply st_conv); intro k' hk; simp [go_sem, thenR_ok, bin]; refine hk _ _ ?_; clear hk k'))
   | ((with_reducible (first | apply tk_bin | apply tk_ext)); (· intro w; simp [go_sem, bin]; rfl)))
  rw [i64_succ (by omega)]
  refine tk_run (fun w => n_u w (by kernel_rfl) (by kernel_rfl) (by omega)) ?_
  refine cl (sp_wNew hs) ?_
  rintro _ w ⟨gw, rfl, hs⟩
  refine ⟨hs.mayr (.drop (.cons .hd .nil)), ?_⟩
  refine cl (sp_wUint hs .hd (by omega) (by simp)) ?_
  rintro _ w ⟨rfl, v1, hs⟩
  refine ⟨hs.mayr (.drop (.cons .hd .nil)), ?_⟩
  rw [List.nil_append] at hs
  refine cl (sp_wDone hs .hd (by omega)) ?_
  rintro r w hs
  refine ⟨hs.mayr (.drop (.cons .hd .nil)), ?_⟩
  refine cl (frame_Frame hs .hd l0 (by omega)) ?_
  rintro _ w ⟨u, rfl, hs⟩
  refine ⟨hs.mayr (.drop (.drop (.cons .hd .nil))), ?_⟩
  have hfl := frameB_len (encU (used + 1))
  obtain ⟨a1, a2, a3⟩ := good_append (bts := frameB (encU (used + 1))) hz hnm (by omega) hN
  obtain ⟨b1, b2⟩ := good_sync a2 hnm a3
  repeat (first
   | (with_reducible (first | refine st_nels ?_ | refine mv.mk ?_ | refine nk_p ?_ | refine br_t ?_ | refine br_f ?_))
   | (with_reducible ((first | apply st_bin | apply st_ext | apply st_conv); intro k' hk; simp [go_sem, thenR_ok, bin]; refine hk _ _ ?_; clear hk k'))
   | ((with_reducible (first | apply tk_bin | apply tk_ext)); (· intro w; simp [go_sem, bin]; rfl)))
  replace hs := hs.drew
  refine dr_can (R := [blkI g T.keys_Signer (sgV gf name seed dg dp lv used dead)]) hs (.drop (.drop (.cons .hd .nil))) ?_
  repeat (first
   | (with_reducible refine signer.c0 ?_)
   | ((with_reducible apply signer.e0); (· first | exact hS | exact hid); (· (with_reducible (repeat (first | exact .blk | exact .rng | apply Rng.tl)))))
   | (with_reducible refine signer.c1 ?_)
   | ((with_reducible apply signer.e1); (· first | exact hS | exact hid); (· (with_reducible (repeat (first | exact .blk | exact .rng | apply Rng.tl)))))
   | (with_reducible refine signer.c5 ?_)
   | ((with_reducible apply signer.e5); (· first | exact hS | exact hid); (· (with_reducible (repeat (first | exact .blk | exact .rng | apply Rng.tl)))); (repeat (· (with_reducible (first | assumption | exact z32 | exact u8s_len (by assumption))))))
   | (with_reducible (first | refine st_nels ?_ | refine mv.mk ?_ | refine nk_p ?_ | refine br_t ?_ | refine br_f ?_))
   | (with_reducible ((first | apply st_bin | apply st_ext | apply st_conv); intro k' hk; simp [go_sem, thenR_ok, bin]; refine hk _ _ ?_; clear hk k'))
   | ((with_reducible (first | apply tk_bin | apply tk_ext)); (· intro w; simp [go_sem, bin]; rfl)))
  refine cl (files_Append (name := name) (bts := frameB (encU (used + 1))) (hs.sbl (.cons (.tl (.tl (.tl .hd))) (.cons (.tl (.tl (.tl .hd))) .all))) (by omega) (by exact .byt) (by omega) ?_ ?_) ?_
  · rcases hz.2.2 with h | ⟨x, h, _⟩ <;> rw [h] <;> simp
  · intro x hx
    rcases hz.2.2 with h | ⟨y, h, h2⟩
    · rw [h] at hx; simp [lookM] at hx
    · rw [h] at hx
      simp [lookM] at hx
      rw [← hx]
      omega
  rintro e w hs
  rw [a1] at hs
  refine ⟨hs.mayr (.drop (.drop (.drop (.drop (.drop (.cons .hd .nil)))))), ?_⟩
  repeat with_reducible refine mv.mk ?_
  refine st_of (err_neq hs .hd) ?_
  refine br_f ?_
  replace hs := hs.drew
  refine dr_can (R := [blkI g T.keys_Signer (sgV gf name seed dg dp lv used dead)]) hs (.drop (.drop (.drop (.drop (.drop (.cons .hd .nil)))))) ?_
  repeat (first
   | (with_reducible refine signer.c0 ?_)
   | ((with_reducible apply signer.e0); (· first | exact hS | exact hid); (· (with_reducible (repeat (first | exact .blk | exact .rng | apply Rng.tl)))))
   | (with_reducible refine signer.c1 ?_)
   | ((with_reducible apply signer.e1); (· first | exact hS | exact hid); (· (with_reducible (repeat (first | exact .blk | exact .rng | apply Rng.tl)))))
   | (with_reducible refine signer.c5 ?_)
   | ((with_reducible apply signer.e5); (· first | exact hS | exact hid); (· (with_reducible (repeat (first | exact .blk | exact .rng | apply Rng.tl)))); (repeat (· (with_reducible (first | assumption | exact z32 | exact u8s_len (by assumption))))))
   | (with_reducible (first | refine st_nels ?_ | refine mv.mk ?_ | refine nk_p ?_ | refine br_t ?_ | refine br_f ?_))
   | (with_reducible ((first | apply st_bin | apply st_ext | apply st_conv); intro k' hk; simp [go_sem, thenR_ok, bin]; refine hk _ _ ?_; clear hk k'))
   | ((with_reducible (first | apply tk_bin | apply tk_ext)); (· intro w; simp [go_sem, bin]; rfl)))
  refine cl (files_Sync (name := name) (hs.sbl (.cons (.tl .hd) (.cons (.tl .hd) .all))) (by omega)) ?_
  rintro e2 w hs
  rw [b1] at hs
  refine ⟨hs.mayr (.drop (.drop (.drop (.drop (.drop (.drop (.cons .hd .nil))))))), ?_⟩
  have he2 : e2 = .nilIface := by
    obtain ⟨d, hd⟩ := hs.get (Ins.hd)
    cases d with
    | zero =>
      rcases hd with ⟨h, _⟩ | ⟨_, h0, _⟩
      · exact h
      · exact absurd rfl h0
    | succ d' =>
      obtain ⟨_, _, _, _, h0, _⟩ := hd
      exact absurd rfl h0
  subst he2
  repeat with_reducible refine mv.mk ?_
  exact ⟨rfl, _, b2, hs.sbl (.cons (.tl (.tl (.tl (.tl (.tl (.tl .hd)))))) (.cons (.tl .hd) (.cons (.tl .hd) (.drop (.drop (.drop (.drop .all)))))))⟩
end
end Go.Proofs.YtbbmgkbinnomgaaGreatDoor
