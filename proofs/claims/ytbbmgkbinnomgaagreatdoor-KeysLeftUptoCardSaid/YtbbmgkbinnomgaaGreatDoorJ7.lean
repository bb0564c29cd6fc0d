/- A signer signs, till its leaves are spent. -/
import Derived.Test.YtbbmgkbinnomgaaGreatDoorJ6
set_option linter.unusedVariables false
set_option linter.unusedSimpArgs false
set_option linter.unusedSectionVars false
namespace Go.Proofs.YtbbmgkbinnomgaaGreatDoor
open Go Go.Isk Go.RowKit
set_option maxRecDepth 20000
section
variable {b : Base} {w : World} {L R : List It} {g gf gm n used : Nat} {v lv dead tv : Value} {name seed text : Bytes} {dg dp : Int} {z : FsD} {leaves : List Bytes}
theorem keys_Sign_ok (hR : Ins L rndF.it) (hsd : seed.length = 32) (hk : kCheck dg dp = 0) (hnm : namedF name = true) (hz : goodZ z name n) (hN : n ≤ 10000) (hu : used < 2 ^ dp.toNat) (ht : Ins L (byF tv text).it) (htl : text.length ≤ 1000000000) (hl : Ins L (listF hshF 32 lv (leavesB seed dg.toNat (2 ^ dp.toNat))).it)
    (hs : Isk.Sep b w (blkI g T.keys_Signer (sgV gf name seed dg dp lv used .nilIface) :: blkI gf T.files_FS (fsV gm z) :: mapI fileF gm z.m :: L)) :
    C Tryz.prog N.keys_Signer_Sign #[.pointer (some ⟨g, 0, none⟩), tv] w fun r w' => ∃ v z', r = .tuple #[v, .nilIface] ∧ goodZ z' name (n + 1) ∧ Isk.Sep b w' ((byF v (signK seed dg dp used text)).it :: blkI g T.keys_Signer (sgV gf name seed dg dp lv (used + 1) .nilIface) :: blkI gf T.files_FS (fsV gm z') :: mapI fileF gm z'.m :: L) := by
  have hsl : (u8s seed).length = 32 := (u8s_length _).trans hsd
  have hp2 := sg_two (dg := dg) (dp := dp)
  obtain ⟨h1, h2, h3, h4⟩ := kCheck_ok hk
  have hp := pow_small h3 h4
  have hll := leavesB_len seed dg.toNat (2 ^ dp.toNat)
  refine C.keys_Signer_Sign ?_
  unfold F.keys_Signer_Sign
  repeat (first
   | (with_reducible refine signer.a0 ?_)
   | ((with_reducible apply signer.r0 hs); (· (with_reducible (repeat (first | exact .blk | exact .rng | apply Rng.tl)))))
   | (with_reducible refine signer.c0 ?_)
   | ((with_reducible apply signer.e0); (· first | exact hS | exact hid); (· (with_reducible (repeat (first | exact .blk | exact .rng | apply Rng.tl)))))
   | (with_reducible refine signer.a2 ?_)
   | ((with_reducible apply signer.r2 hs); (· (with_reducible (repeat (first | exact .blk | exact .rng | apply Rng.tl)))); (· (with_reducible (first | assumption | exact z32 | exact u8s_len (by assumption)))))
   | (with_reducible refine signer.c2 ?_)
   | ((with_reducible apply signer.e2); (· first | exact hS | exact hid); (· (with_reducible (repeat (first | exact .blk | exact .rng | apply Rng.tl)))); (· (with_reducible (first | assumption | exact z32 | exact u8s_len (by assumption)))))
   | (with_reducible refine signer.a3 ?_)
   | ((with_reducible apply signer.r3 hs); (· (with_reducible (repeat (first | exact .blk | exact .rng | apply Rng.tl)))); (repeat (· (with_reducible (first | assumption | exact z32 | exact u8s_len (by assumption))))))
   | (with_reducible refine signer.c3 ?_)
   | ((with_reducible apply signer.e3); (· first | exact hS | exact hid); (· (with_reducible (repeat (first | exact .blk | exact .rng | apply Rng.tl)))); (repeat (· (with_reducible (first | assumption | exact z32 | exact u8s_len (by assumption))))))
   | (with_reducible refine signer.a4 ?_)
   | ((with_reducible apply signer.r4 hs); (· (with_reducible (repeat (first | exact .blk | exact .rng | apply Rng.tl)))); (repeat (· (with_reducible (first | assumption | exact z32 | exact u8s_len (by assumption))))))
   | (with_reducible refine signer.c4 ?_)
   | ((with_reducible apply signer.e4); (· first | exact hS | exact hid); (· (with_reducible (repeat (first | exact .blk | exact .rng | apply Rng.tl)))); (repeat (· (with_reducible (first | assumption | exact z32 | exact u8s_len (by assumption))))))
   | (with_reducible refine signer.a5 ?_)
   | ((with_reducible apply signer.r5 hs); (· (with_reducible (repeat (first | exact .blk | exact .rng | apply Rng.tl)))); (repeat (· (with_reducible (first | assumption | exact z32 | exact u8s_len (by assumption))))))
   | (with_reducible refine signer.c5 ?_)
   | ((with_reducible apply signer.e5); (· first | exact hS | exact hid); (· (with_reducible (repeat (first | exact .blk | exact .rng | apply Rng.tl)))); (repeat (· (with_reducible (first | assumption | exact z32 | exact u8s_len (by assumption))))))
   | (with_reducible refine signer.a6 ?_)
   | ((with_reducible apply signer.r6 hs); (· (with_reducible (repeat (first | exact .blk | exact .rng | apply Rng.tl)))); (repeat (· (with_reducible (first | assumption | exact z32 | exact u8s_len (by assumption))))))
   | (with_reducible refine signer.c6 ?_)
   | ((with_reducible apply signer.e6); (· first | exact hS | exact hid); (· (with_reducible (repeat (first | exact .blk | exact .rng | apply Rng.tl)))); (repeat (· (with_reducible (first | assumption | exact z32 | exact u8s_len (by assumption))))))
   | (with_reducible (first | refine st_eqls ?_ | refine st_nels ?_ | refine mv.mk ?_ | refine nk_p ?_ | refine br_t ?_ | refine br_f ?_))
   | (with_reducible ((first | apply st_bin | apply st_ext | apply st_mki); intro k' hk; simp [go_sem, thenR_ok, bin]; refine hk _ _ ?_; clear hk k')))
  refine cl (keys_Left hs hsd (.tl (.tl hl)) (by omega) (by omega)) ?_
  rintro _ w ⟨rfl, hs⟩
  rw [hll]
  refine st_of (v := .bool false) (w' := w) (by simp [go_sem, bin]; omega) ?_
  repeat with_reducible refine mv.mk ?_
  refine br_f ?_
  repeat with_reducible refine mv.mk ?_
  refine cl (keys_reserve hsd hnm hz hN (by omega) hs) ?_
  rintro _ w ⟨rfl, z', hz', hs⟩
  refine nk_p ?_
  repeat with_reducible refine mv.mk ?_
  refine signer.s6 hs .hd hsl hp2 ⟨rfl, rfl⟩ fun w hs => ?_
  repeat with_reducible refine mv.mk ?_
  refine nk_p ?_
  repeat with_reducible refine mv.mk ?_
  refine signer.l6 hs .blk hsl hp2 ?_
  refine st_of (v := .bool false) (w' := w) (by simp [go_sem, bin]) ?_
  refine br_f ?_
  repeat with_reducible refine mv.mk ?_
  refine nk_p ?_
  repeat with_reducible refine mv.mk ?_
  refine signer.l5 hs .blk hsl hp2 ?_
  repeat with_reducible refine mv.mk ?_
  refine nk_p ?_
  repeat with_reducible refine mv.mk ?_
  refine signer.l5 hs .blk hsl hp2 ?_
  refine sn_add (by omega) ?_
  refine nk_p ?_
  repeat with_reducible refine mv.mk ?_
  refine signer.s5 hs .hd hsl hp2 ⟨rfl, rfl⟩ fun w hs => ?_
  replace hs : Isk.Sep b w (blkI g T.keys_Signer (sgV gf name seed dg dp lv (used + 1) .nilIface) :: blkI gf T.files_FS (fsV gm z') :: mapI fileF gm z'.m :: L) := hs
  repeat with_reducible refine mv.mk ?_
  refine nk_p ?_
  repeat with_reducible refine mv.mk ?_
  refine signer.a3 ?_
  refine para.a0 ?_
  have hx : (sgV gf name seed dg dp lv (used + 1) .nilIface)[34]? = some (.int .i64 dg) := by
    show (signerC _ _ (u8s seed) _ _ _ _)[34]? = _
    unfold signerC
    rw [List.getElem?_cons_succ, List.getElem?_cons_succ, List.getElem?_append_right (by omega), hsl]
    rfl
  refine sx_ld (o := 0) (p := 34) hs .blk (by kernel_rfl) hx ?_
  refine cl (wots_Digest (n := dg) hs (.tl (.tl (.tl hR))) (.tl (.tl (.tl ht))) (by omega)) ?_
  rintro _ w ⟨dv, e3, rfl, hs⟩
  have hdg : digOk dg = true := by simp [digOk]; omega
  rw [if_pos hdg, if_pos hdg] at hs
  have hdl := digestB_len (text := text) (n := dg.toNat) (by omega)
  repeat with_reducible refine mv.mk ?_
  refine st_of (v := dv) (w' := w) (by simp [go_sem]) ?_
  refine st_of (v := e3) (w' := w) (by simp [go_sem]) ?_
  repeat with_reducible refine mv.mk ?_
  refine st_of (err_neq hs (.tl .hd)) ?_
  refine br_f ?_
  repeat with_reducible refine mv.mk ?_
  refine nk_p ?_
  repeat with_reducible refine mv.mk ?_
  refine signer.l2 hs (.tl (.tl .blk)) hsl ?_
  repeat with_reducible refine mv.mk ?_
  refine cl (wots_Sign (leaf := used) hs (.tl (.tl (.tl (.tl (.tl hR))))) .hd hsd (by omega) (by omega) (by omega)) ?_
  rintro _ w ⟨cv, rfl, hs⟩
  repeat (first
   | (with_reducible (first | refine st_eqls ?_ | refine st_nels ?_ | refine mv.mk ?_ | refine nk_p ?_ | refine br_t ?_ | refine br_f ?_))
   | (with_reducible ((first | apply st_bin | apply st_ext | apply st_mki); intro k' hk; simp [go_sem, thenR_ok, bin]; refine hk _ _ ?_; clear hk k')))
  refine signer.l4 hs (.tl (.tl (.tl .blk))) hsl hp2 ?_
  repeat with_reducible refine mv.mk ?_
  refine cl (sha_Path (2 ^ dp.toNat) (i := used) hll hs (.tl (.tl (.tl (.tl (.tl (.tl hR)))))) (.tl (.tl (.tl (.tl (.tl (.tl hl)))))) (by omega) hu) ?_
  rintro _ w ⟨pv, rfl, hs⟩
  replace hs := hs.growF .hd
  obtain ⟨A, c, rfl⟩ := bytesF_slice hs (.tl .hd)
  obtain ⟨A2, c2, rfl⟩ := hs.lst_len (Ins.lst .hd)
  repeat (first
   | (with_reducible (first | refine st_eqls ?_ | refine st_nels ?_ | refine mv.mk ?_ | refine nk_p ?_ | refine br_t ?_ | refine br_f ?_))
   | (with_reducible ((first | apply st_bin | apply st_ext | apply st_mki); intro k' hk; simp [go_sem, thenR_ok, bin]; refine hk _ _ ?_; clear hk k')))
  refine st_build (cells := (ksigC (.int .i64 (used : Int)) (.slice A (signW seed used (digestB text dg.toNat)).length c) (.slice A2 (pathB (leavesB seed dg.toNat (2 ^ dp.toNat)) used).length c2)).toArray) (by kernel_rfl) ?_
  have hsg : (signW seed used (digestB text dg.toNat)).length ≤ 10000 := by
    rw [signW, chainsB_len, hdl]
    omega
  have hpl : (pathB (leavesB seed dg.toNat (2 ^ dp.toNat)) used).length ≤ 10 := by
    have := pathN_len dp.toNat (leavesB seed dg.toNat (2 ^ dp.toNat)).length (l := leavesB seed dg.toNat (2 ^ dp.toNat)) (i := used) (by omega)
    exact Nat.le_trans this (by omega)
  refine cl (keys_signature_bytes (leaf := used) hs (.tl .hd) .hd (by omega) (by omega) (by omega)) ?_
  rintro r w hs
  repeat with_reducible refine mv.mk ?_
  exact ⟨r, z', rfl, hz', hs.sbl (.cons .hd (.drop (.drop (.drop (.drop .all)))))⟩
theorem keys_Sign_spent (hsd : seed.length = 32) (hk : kCheck dg dp = 0) (hl : Ins L (listF hshF 32 lv (leavesB seed dg.toNat (2 ^ dp.toNat))).it)
    (hs : Isk.Sep b w (blkI g T.keys_Signer (sgV gf name seed dg dp lv (2 ^ dp.toNat) .nilIface) :: L)) :
    C Tryz.prog N.keys_Signer_Sign #[.pointer (some ⟨g, 0, none⟩), tv] w fun r w' => ∃ v e, r = .tuple #[v, e] ∧ Isk.Sep b w' ((errF e 22).it :: blkI g T.keys_Signer (sgV gf name seed dg dp lv (2 ^ dp.toNat) .nilIface) :: L) := by
  have hsl : (u8s seed).length = 32 := (u8s_length _).trans hsd
  have hp2 := sg_two (dg := dg) (dp := dp)
  obtain ⟨h1, h2, h3, h4⟩ := kCheck_ok hk
  have hp := pow_small h3 h4
  have hll := leavesB_len seed dg.toNat (2 ^ dp.toNat)
  refine C.keys_Signer_Sign ?_
  unfold F.keys_Signer_Sign
  repeat (first
   | (with_reducible refine signer.a0 ?_)
   | ((with_reducible apply signer.r0 hs); (· (with_reducible (repeat (first | exact .blk | exact .rng | apply Rng.tl)))))
   | (with_reducible refine signer.c0 ?_)
   | ((with_reducible apply signer.e0); (· first | exact hS | exact hid); (· (with_reducible (repeat (first | exact .blk | exact .rng | apply Rng.tl)))))
   | (with_reducible refine signer.a2 ?_)
   | ((with_reducible apply signer.r2 hs); (· (with_reducible (repeat (first | exact .blk | exact .rng | apply Rng.tl)))); (· (with_reducible (first | assumption | exact z32 | exact u8s_len (by assumption)))))
   | (with_reducible refine signer.c2 ?_)
   | ((with_reducible apply signer.e2); (· first | exact hS | exact hid); (· (with_reducible (repeat (first | exact .blk | exact .rng | apply Rng.tl)))); (· (with_reducible (first | assumption | exact z32 | exact u8s_len (by assumption)))))
   | (with_reducible refine signer.a3 ?_)
   | ((with_reducible apply signer.r3 hs); (· (with_reducible (repeat (first | exact .blk | exact .rng | apply Rng.tl)))); (repeat (· (with_reducible (first | assumption | exact z32 | exact u8s_len (by assumption))))))
   | (with_reducible refine signer.c3 ?_)
   | ((with_reducible apply signer.e3); (· first | exact hS | exact hid); (· (with_reducible (repeat (first | exact .blk | exact .rng | apply Rng.tl)))); (repeat (· (with_reducible (first | assumption | exact z32 | exact u8s_len (by assumption))))))
   | (with_reducible refine signer.a4 ?_)
   | ((with_reducible apply signer.r4 hs); (· (with_reducible (repeat (first | exact .blk | exact .rng | apply Rng.tl)))); (repeat (· (with_reducible (first | assumption | exact z32 | exact u8s_len (by assumption))))))
   | (with_reducible refine signer.c4 ?_)
   | ((with_reducible apply signer.e4); (· first | exact hS | exact hid); (· (with_reducible (repeat (first | exact .blk | exact .rng | apply Rng.tl)))); (repeat (· (with_reducible (first | assumption | exact z32 | exact u8s_len (by assumption))))))
   | (with_reducible refine signer.a5 ?_)
   | ((with_reducible apply signer.r5 hs); (· (with_reducible (repeat (first | exact .blk | exact .rng | apply Rng.tl)))); (repeat (· (with_reducible (first | assumption | exact z32 | exact u8s_len (by assumption))))))
   | (with_reducible refine signer.c5 ?_)
   | ((with_reducible apply signer.e5); (· first | exact hS | exact hid); (· (with_reducible (repeat (first | exact .blk | exact .rng | apply Rng.tl)))); (repeat (· (with_reducible (first | assumption | exact z32 | exact u8s_len (by assumption))))))
   | (with_reducible refine signer.a6 ?_)
   | ((with_reducible apply signer.r6 hs); (· (with_reducible (repeat (first | exact .blk | exact .rng | apply Rng.tl)))); (repeat (· (with_reducible (first | assumption | exact z32 | exact u8s_len (by assumption))))))
   | (with_reducible refine signer.c6 ?_)
   | ((with_reducible apply signer.e6); (· first | exact hS | exact hid); (· (with_reducible (repeat (first | exact .blk | exact .rng | apply Rng.tl)))); (repeat (· (with_reducible (first | assumption | exact z32 | exact u8s_len (by assumption))))))
   | (with_reducible (first | refine st_eqls ?_ | refine st_nels ?_ | refine mv.mk ?_ | refine nk_p ?_ | refine br_t ?_ | refine br_f ?_))
   | (with_reducible ((first | apply st_bin | apply st_ext | apply st_mki); intro k' hk; simp [go_sem, thenR_ok, bin]; refine hk _ _ ?_; clear hk k')))
  refine cl (keys_Left hs hsd hl (by omega) (by omega)) ?_
  rintro _ w ⟨rfl, hs⟩
  rw [hll, Nat.sub_self]
  refine st_of (v := .bool true) (w' := w) (by simp [go_sem, bin]) ?_
  repeat with_reducible refine mv.mk ?_
  refine br_t ?_
  repeat (first
   | (with_reducible (first | refine st_eqls ?_ | refine st_nels ?_ | refine mv.mk ?_ | refine nk_p ?_ | refine br_t ?_ | refine br_f ?_))
   | (with_reducible ((first | apply st_bin | apply st_ext | apply st_mki); intro k' hk; simp [go_sem, thenR_ok, bin]; refine hk _ _ ?_; clear hk k')))
  refine cl (keys_fault (e := 22) (by decide) (by decide) (by decide) hs) ?_
  rintro e w hs
  repeat with_reducible refine mv.mk ?_
  exact ⟨_, e, rfl, hs⟩
end
end Go.Proofs.YtbbmgkbinnomgaaGreatDoor
