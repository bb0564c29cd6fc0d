/- A signer signs, till its leaves are spent. -/
import Derived.Test.YtbbmgkbinnomgaaGreatDoorJ6
set_option linter.unusedVariables false
set_option linter.unusedSimpArgs false
set_option linter.unusedSectionVars false
namespace Go.Proofs.YtbbmgkbinnomgaaGreatDoor
open Go Go.Isk Go.RowKit
set_option maxRecDepth 20000
section
variable {b : Base} {w : World} {L R : List It} {g gf gm n used : Nat} {v lv dead tv : Value} {name seed text : Bytes} {dg dp : Int} {z : FsD} {leaves : List Bytes}
theorem keys_Sign_ok (hR : Ins L rndF.it) (hsd : seed.length = 32) (hk : kCheck dg dp = 0) (hnm : namedF name = true) (hz : goodZ z name n) (hN : n ≤ 10000) (hu : used < 2 ^ dp.toNat) (ht : Ins L (byF tv text).it) (htl : text.length ≤ 1000000000) (hl : Ins L (listF hshF 32 lv (leavesB seed dg.toNat (2 ^ dp.toNat))).it)
    (hs : Isk.Sep b w (blkI g T.keys_Signer (sgV gf name seed dg dp lv used .nilIface) :: blkI gf T.files_FS (fsV gm z) :: mapI fileF gm z.m :: L)) :
    C Tryz.prog N.keys_Signer_Sign #[.pointer (some ⟨g, 0, none⟩), tv] w fun r w' => ∃ v z', r = .tuple #[v, .nilIface] ∧ goodZ z' name (n + 1) ∧ Isk.Sep b w' ((byF v (signK seed dg dp used text)).it :: blkI g T.keys_Signer (sgV gf name seed dg dp lv (used + 1) .nilIface) :: blkI gf T.files_FS (fsV gm z') :: mapI fileF gm z'.m :: L) := by
  have hsl : (u8s seed).length = 32 := (u8s_length _).trans hsd
  have hp2 := sg_two (dg := dg) (dp := dp)
  obtain ⟨h1, h2, h3, h4⟩ := kCheck_ok hk
  have hp := pow_small h3 h4
  have hll := leavesB_len seed dg.toNat (2 ^ dp.toNat)
  refine C.keys_Signer_Sign ?_
  unfold F.keys_Signer_Sign
  repeat (first
   | (with_reducible refine signer.a0 ?_)
   | ((with_reducible apply signer.r0 hs); (· (with_reducible (repeat (first | exact .blk | exact .rng | apply Rng.tl)))))
   | (with_reducible refine signer.c0 ?_)
   | ((with_reducible apply signer.e0); (· first | exact hS | exact hid); (· (with_reducible (repeat (first | exact .blk | exact .rng | apply Rng.tl)))))
   | (with_reducible refine signer.a2 ?_)
   | ((with_reducible apply signer.r2 hs); (· (with_reducible (repeat (first | exact .blk | exact .rng | apply Rng.tl)))); (· (with_reducible (first | assumption | exact z32 | exact u8s_len (by assumption)))))
   | (with_reducible refine signer.c2 ?_)
   | ((with_reducible apply signer.e2); (· first | exact hS | exact hid); (· (with_reducible (repeat (first | exact .blk | exact .rng | apply Rng.tl)))); (· (with_reducible (first | assumption | exact z32 | exact u8s_len (by assumption)))))
   | (with_reducible refine signer.a3 ?_)
   | ((with_reducible apply signer.r3 hs); (· (with_reducible (repeat (first | exact .blk | exact .rng | apply Rng.tl)))); (repeat (· (with_reducible (first | assumption | exact z32 | exact u8s_len (by assumption))))))
   | (with_reducible refine signer.c3 ?_)
   | ((with_reducible apply signer.e3); (· first | exact hS | exact hid); (· (with_reducible (repeat (first | exact .blk | exact .rng | apply Rng.tl)))); (repeat (· (with_reducible (first | assumption | exact z32 | exact u8s_len (by assumption))))))
   | (with_reducible refine signer.a4 ?_)
   | ((with_reducible apply signer.r4 hs); (· (with_reducible (repeat (first | exact .blk | exact .rng | apply Rng.tl)))); (repeat (· (with_reducible (first | assumption | exact z32 | exact u8s_len (by assumption))))))
   | (with_reducible refine signer.c4 ?_)
   | ((with_reducible apply signer.e4); (· first | exact hS | exact hid); (· (with_reducible (repeat (first | exact .blk | exact .rng | apply Rng.tl)))); (repeat (· (with_reducible (first | assumption | exact z32 | exact u8s_len (by assumption))))))
   | (with_reducible refine signer.a5 ?_)
   | ((with_reducible apply signer.r5 hs); (· (with_reducible (repeat (first | exact .blk | exact .rng | apply Rng.tl)))); (repeat (· (with_reducible (first | assumption | exact z32 | exact u8s_len (by assumption))))))
   | (with_reducible refine signer.c5 ?_)
   | ((with_reducible apply signer.e5); (· first | exact hS | exact hid); (· (with_reducible (repeat (first | exact .blk | exact .rng | apply Rng.tl)))); (repeat (· (with_reducible (first | assumption | exact z32 | exact u8s_len (by assumption))))))
   | (with_reducible refine signer.a6 ?_)
   | ((with_reducible apply signer.r6 hs); (· (with_reducible (repeat (first | exact .blk | exact .rng | apply Rng.tl)))); (repeat (· (with_reducible (first | assumption | exact z32 | exact u8s_len (by assumption))))))
   | (with_reducible refine signer.c6 ?_)
   | ((with_reducible apply signer.e6); (· first | exact hS | exact hid); (· (with_reducible (repeat (first | exact .blk | exact .rng | apply Rng.tl)))); (repeat (· (with_reducible (first | assumption | exact z32 | exact u8s_len (by assumption))))))
   | (with_reducible (first | refine st_eqls ?_ | refine st_nels ?_ | refine mv.mk ?_ | refine nk_p ?_ | refine br_t ?_ | refine br_f ?_))
   | (with_reducible ((first | apply st_bin | apply st_ext | apply st_mki); intro k' hk; simp [go_sem, thenR_ok, bin]; refine hk _ _ ?_; clear hk k')))
  refine cl (keys_Left hs hsd (.tl (.tl hl)) (by omega) (by omega)) ?_
  rintro _ w ⟨rfl, hs⟩
  rw [hll]
  refine st_of (v := .bool false) (w' := w) (by simp [go_sem, bin]; omega) ?_
  repeat with_reducible refine mv.mk ?_
  refine br_f ?_
  repeat with_reducible refine mv.mk ?_
  refine cl (keys_reserve hsd hnm hz hN (by omega) hs) ?_
  rintro _ w ⟨rfl, z', hz', hs⟩
  refine nk_p ?_
  repeat with_reducible refine mv.mk ?_
  refine signer.s6 hs .hd hsl hp2 ⟨rfl, rfl⟩ fun w hs => ?_
  repeat with_reducible refine mv.mk ?_
  refine nk_p ?_
  repeat with_reducible refine mv.mk ?_
  refine signer.l6 hs .blk hsl hp2 ?_
  refine st_of (v := .bool false) (w' := w) (by simp [go_sem, bin]) ?_
  refine br_f ?_
  repeat with_reducible refine mv.mk ?_
  refine nk_p ?_
  repeat with_reducible refine mv.mk ?_
  refine signer.l5 hs .blk hsl hp2 ?_
  repeat with_reducible refine mv.mk ?_
  refine nk_p ?_
  repeat with_reducible refine mv.mk ?_
  refine signer.l5 hs .blk hsl hp2 ?_
  refine sn_add (by omega) ?_
  refine nk_p ?_
  repeat with_reducible refine mv.mk ?_
  refine signer.s5 hs .hd hsl hp2 ⟨rfl, rfl⟩ fun w hs => ?_
  replace hs : Isk.Sep b w (blkI g T.keys_Signer (sgV gf name seed dg dp lv (used + 1) .nilIface) :: blkI gf T.files_FS (fsV gm z') :: mapI fileF gm z'.m :: L) := hs
  repeat with_reducible refine mv.mk ?_
  refine nk_p ?_
  repeat with_reducible refine mv.mk ?_
  refine signer.a3 ?_
  refine para.a0 ?_
  have hx : (sgV gf name seed dg dp lv (used + 1) .nilIface)[34]? = some (.int .i64 dg) := by
    show (signerC _ _ (u8s seed) _ _ _ _)[34]? = _
    unfold signerC
    rw [List.getElem?_cons_succ, List.getElem?_cons_succ, List.getElem?_append_right (by omega), hsl]
    rfl
  refine sx_ld (o := 0) (p := 34) hs .blk (by kernel_rfl) hx ?_
  refine cl (wots_Digest (n := dg) hs (.tl (.tl (.tl hR))) (.tl (.tl (.tl ht))) (by omega)) ?_
  rintro _ w ⟨dv, e3, rfl, hs⟩
  have hdg : digOk dg = true := by simp [digOk]; omega
  rw [if_pos hdg, if_pos hdg] at hs
  have hdl := digestB_len (text := text) (n := dg.toNat) (by omega)
  repeat with_reducible refine mv.mk ?_
  refine st_of (v := dv) (w' := w) (by simp [go_sem]) ?_
  refine st_of (v := e3) (w' := w) (by simp [go_sem]) ?_
  repeat with_reducible refine mv.mk ?_
  refine st_of (err_neq hs (.tl .hd)) ?_
  refine br_f ?_
  repeat with_reducible refine mv.mk ?_
  refine nk_p ?_
  repeat with_reducible refine mv.mk ?_
  refine signer.l2 hs (.tl (.tl .blk)) hsl ?_
  repeat with_reducible refine mv.mk ?_
  refine cl (wots_Sign (leaf := used) hs (.tl (.tl (.tl (.tl (.tl hR))))) .hd hsd (by omega) (by omega) (by omega)) ?_
  rintro _ w ⟨cv, rfl, hs⟩
  repeat (first
   | (with_reducible (first | refine st_eqls ?_ | refine st_nels ?_ | refine mv.mk ?_ | refine nk_p ?_ | refine br_t ?_ | refine br_f ?_))
   | (with_reducible ((first | apply st_bin | apply st_ext | apply st_mki); intro k' hk; simp [go_sem, thenR_ok, bin]; refine hk _ _ ?_; clear hk k')))
  refine signer.l4 hs (.tl (.tl (.tl .blk))) hsl hp2 ?_
  repeat with_reducible refine mv.mk ?_
  refine cl (sha_Path (2 ^ dp.toNat) (i := used) hll hs (.tl (.tl (.tl (.tl (.tl (.tl hR)))))) (.tl (.tl (.tl (.tl (.tl (.tl hl)))))) (by omega) hu) ?_
  rintro _ w ⟨pv, rfl, hs⟩
  replace hs := hs.growF .hd
  obtain ⟨A, c, rfl⟩ := bytesF_slice hs (.tl .hd)
  obtain ⟨A2, c2, rfl⟩ := hs.lst_len (Ins.lst .hd)
  repeat (first
   | (with_reducible (first | refine st_eqls ?_ | refine st_nels ?_ | refine mv.mk ?_ | refine nk_p ?_ | refine br_t ?_ | refine br_f ?_))
   | (with_reducible ((first | apply st_bin | apply st_ext | apply st_mki); intro k' hk; simp [go_sem, thenR_ok, bin]; refine hk _ _ ?_; clear hk k')))
  refine st_build (cells := (ksigC (.int .i64 (used : Int)) (.slice A (signW seed used (digestB text dg.toNat)).length c) (.slice A2 (pathB (leavesB seed dg.toNat (2 ^ dp.toNat)) used).length c2)).toArray) (by kernel_rfl) ?_
  have hsg : (signW seed used (digestB text dg.toNat)).length ≤ 10000 := by
    rw [signW, chainsB_len, hdl]
    omega
  have hpl : (pathB (leavesB seed dg.toNat (2 ^ dp.toNat)) used).length ≤ 10 := by
    have := pathN_len dp.toNat (leavesB seed dg.toNat (2 ^ dp.toNat)).length (l := leavesB seed dg.toNat (2 ^ dp.toNat)) (i := used) (by omega)
    exact Nat.le_trans this (by omega)
  refine cl (keys_signature_bytes (leaf := used) hs (.tl .hd) .hd (by omega) (by omega) (by omega)) ?_
  rintro r w hs
  repeat with_reducible refine mv.mk ?_
  exact ⟨r, z', rfl, hz', hs.sbl (.cons .hd (.drop (.drop (.drop (.drop .all)))))⟩
theorem keys_Sign_spent (hsd : seed.length = 32) (hk : kCheck dg dp = 0) (hl : Ins L (listF hshF 32 lv (leavesB seed dg.toNat (2 ^ dp.toNat))).it)
    (hs : Isk.Sep b w (blkI g T.keys_Signer (sgV gf name seed dg dp lv (2 ^ dp.toNat) .nilIface) :: L)) :
    C Tryz.prog N.keys_Signer_Sign #[.pointer (some ⟨g, 0, none⟩), tv] w fun r w' => ∃ v e, r = .tuple #[v, e] ∧ Isk.Sep b w' ((errF e 22).it :: blkI g T.keys_Signer (sgV gf name seed dg dp lv (2 ^ dp.toNat) .nilIface) :: L) := by
  have hsl : (u8s seed).length = 32 := (u8s_length _).trans hsd
  have hp2 := sg_two (dg := dg) (dp := dp)
  obtain ⟨h1, h2, h3, h4⟩ := kCheck_ok hk
  have hp := pow_small h3 h4
  have hll := leavesB_len seed dg.toNat (2 ^ dp.toNat)
  refine C.keys_Signer_Sign ?_
  unfold F.keys_Signer_Sign
  repeat (first
   | (with_reducible refine signer.a0 ?_)
   | ((with_reducible apply signer.r0 hs); (· (with_reducible (repeat (first | exact .blk | exact .rng | apply Rng.tl)))))
   | (with_reducible refine signer.c0 ?_)
   | ((with_reducible apply signer.e0); (· first | exact hS | exact hid); (· (with_reducible (repeat (first | exact .blk | exact .rng | apply Rng.tl)))))
   | (with_reducible refine signer.a2 ?_)
   | ((with_reducible apply signer.r2 hs); (· (with_reducible (repeat (first | exact .blk | exact .rng | apply Rng.tl)))); (· (with_reducible (first | assumption | exact z32 | exact u8s_len (by assumption)))))
   | (with_reducible refine signer.c2 ?_)
   | ((with_reducible apply signer.e2); (· first | exact hS | exact hid); (· (with_reducible (repeat (first | exact .blk | exact .rng | apply Rng.tl)))); (· (with_reducible (first | assumption | exact z32 | exact u8s_len (by assumption)))))
   | (with_reducible refine signer.a3 ?_)
   | ((with_reducible apply signer.r3 hs); (· (with_reducible (repeat (first | exact .blk | exact .rng | apply Rng.tl)))); (repeat (· (with_reducible (first | assumption | exact z32 | exact u8s_len (by assumption))))))
   | (with_reducible refine signer.c3 ?_)
   | ((with_reducible apply signer.e3); (· first | exact hS | exact hid); (· (with_reducible (repeat (first | exact .blk | exact .rng | apply Rng.tl)))); (repeat (· (with_reducible (first | assumption | exact z32 | exact u8s_len (by assumption))))))
   | (with_reducible refine signer.a4 ?_)
   | ((with_reducible apply signer.r4 hs); (· (with_reducible (repeat (first | exact .blk | exact .rng | apply Rng.tl)))); (repeat (· (with_reducible (first | assumption | exact z32 | exact u8s_len (by assumption))))))
   | (with_reducible refine signer.c4 ?_)
   | ((with_reducible apply signer.e4); (· first | exact hS | exact hid); (· (with_reducible (repeat (first | exact .blk | exact .rng | apply Rng.tl)))); (repeat (· (with_reducible (first | assumption | exact z32 | exact u8s_len (by assumption))))))
   | (with_reducible refine signer.a5 ?_)
   | ((with_reducible apply signer.r5 hs); (· (with_reducible (repeat (first | exact .blk | exact .rng | apply Rng.tl)))); (repeat (· (with_reducible (first | assumption | exact z32 | exact u8s_len (by assumption))))))
   | (with_reducible refine signer.c5 ?_)
   | ((with_reducible apply signer.e5); (· first | exact hS | exact hid); (· (with_reducible (repeat (first | exact .blk | exact .rng | apply Rng.tl)))); (repeat (· (with_reducible (first | assumption | exact z32 | exact u8s_len (by assumption))))))
   | (with_reducible refine signer.a6 ?_)
   | ((with_reducible apply signer.r6 hs); (· (with_reducible (repeat (first | exact .blk | exact .rng | apply Rng.tl)))); (repeat (· (with_reducible (first | assumption | exact z32 | exact u8s_len (by assumption))))))
   | (with_reducible refine signer.c6 ?_)
   | ((with_reducible apply signer.e6); (· first | exact hS | exact hid); (· (with_reducible (repeat (first | exact .blk | exact .rng | apply Rng.tl)))); (repeat (· (with_reducible (first | assumption | exact z32 | exact u8s_len (by assumption))))))
   | (with_reducible (first | refine st_eqls ?_ | refine st_nels ?_ | refine mv.mk ?_ | refine nk_p ?_ | refine br_t ?_ | refine br_f ?_))
   | (with_reducible ((first | apply st_bin | apply st_ext | apply st_mki); intro k' hk; simp [go_sem, thenR_ok, bin]; refine hk _ _ ?_; clear hk k')))
  refine cl (keys_Left hs hsd hl (by omega) (by omega)) ?_
  rintro _ w ⟨rfl, hs⟩
  rw [hll, Nat.sub_self]
  refine st_of (v := .bool true) (w' := w) (by simp [go_sem, bin]) ?_
  repeat with_reducible refine mv.mk ?_
  refine br_t ?_
  repeat (first
   | (with_reducible (first | refine st_eqls ?_ | refine st_nels ?_ | refine mv.mk ?_ | refine nk_p ?_ | refine br_t ?_ | refine br_f ?_))
   | (with_reducible ((first | apply st_bin | apply st_ext | apply st_mki); intro k' hk; simp [go_sem, thenR_ok, bin]; refine hk _ _ ?_; clear hk k')))
  refine cl (keys_fault (e := 22) (by decide) (by decide) (by decide) hs) ?_
  rintro e w hs
  repeat with_reducible refine mv.mk ?_
  exact ⟨_, e, rfl, hs⟩
end
end Go.Proofs.YtbbmgkbinnomgaaGreatDoor
set_option linter.unusedVariables false
set_option linter.unusedSimpArgs false
set_option linter.unusedSectionVars false
namespace Go.Proofs.YtbbmgkbinnomgaaGreatDoor
open Go Go.Isk Go.RowKit
set_option maxRecDepth 20000
section
variable {b : Base} {w : World} {L R : List It} {g gf gm used : Nat} {v lv dead tv e : Value} {name seed text : Bytes} {dg dp n : Int} {z : FsD} {leaves : List Bytes}
theorem isthmuslaw06_num (hs : Isk.Sep b w L) (hT : Ins L errT.it) (hv : Ins L (errF e n).it) : C Tryz.prog N.isthmuslaw06_num #[e] w fun r w' => r = .int .i64 n ∧ Isk.Sep b w' L :=
  C.isthmuslaw06_num (num_call (F := F.isthmuslaw06_num) hs hT hv (fun _ _ _ => rfl) fun w hs => ⟨rfl, hs⟩)
theorem errF_zeroK (hs : Isk.Sep b w L) (hm : Ins L (errF e 0).it) : e = .nilIface := by
  obtain ⟨d, hd⟩ := hs.get hm
  cases d with
  | zero =>
    rcases hd with ⟨rfl, _⟩ | ⟨_, h0, _⟩
    · rfl
    · exact absurd rfl h0
  | succ d' =>
    obtain ⟨_, _, _, _, h0, _⟩ := hd
    exact absurd rfl h0
theorem isthmuslaw06_small (hs : Isk.Sep b w L) : C Tryz.prog N.isthmuslaw06_small #[] w fun r w' => r = .agg #[.int .i64 1, .int .i64 1] ∧ Isk.Sep b w' L := by
  refine C.isthmuslaw06_small ?_
  unfold F.isthmuslaw06_small
  refine sp_newr hs (by kernel_rfl) fun g w hs => ?_
  refine st_build (cells := (paraC (.int .i64 1) (.int .i64 1)).toArray) (by kernel_rfl) ?_
  refine sp_ret hs .hd (by kernel_rfl) rfl (fun u hu => ?_) fun w hs => ?_
  · simp only [paraC, List.mem_cons, List.not_mem_nil, or_false] at hu
    rcases hu with rfl | rfl <;> rfl
  exact ⟨rfl, hs⟩
theorem sp_lit8 {c : UInt8} {k : Value → World → Prop} (hs : Isk.Sep b w L) (hk : ∀ v w', Isk.Sep b w' ((byF v [c]).it :: L) → k v w') : o1 Tryz.prog (Instr.buildSlice T.sl_uint8 1 #[(0, .int .u8 c.toNat)]) w fun v w => o1 Tryz.prog (convert T.sl_uint8 T.sl_uint8 v) w k :=
  sp_blit (E := T.uint8) (by_ := 1) hs (by kernel_rfl) (by kernel_rfl) [c] rfl rfl (by decide) (by decide) hk
theorem signK_len {leaf : Nat} (h : kCheck dg dp = 0) (hl : leaf < 2 ^ dp.toNat) : (signK seed dg dp leaf text).length ≤ 100000 := by
  obtain ⟨h1, h2, h3, h4⟩ := kCheck_ok h
  have hp := pow_small h3 h4
  have hdl := digestB_len (text := text) (n := dg.toNat) (by omega)
  have hll := leavesB_len seed dg.toNat (2 ^ dp.toNat)
  have l1 := encU_two (n := leaf) (by omega)
  have hpl : (pathB (leavesB seed dg.toNat (2 ^ dp.toNat)) leaf).length ≤ 10 := by
    have := pathN_len dp.toNat (leavesB seed dg.toNat (2 ^ dp.toNat)).length (l := leavesB seed dg.toNat (2 ^ dp.toNat)) (i := leaf) (by omega)
    exact Nat.le_trans this (by omega)
  have h32 : ∀ x ∈ pathB (leavesB seed dg.toNat (2 ^ dp.toNat)) leaf, x.length = 32 := pathN_32 _ (leavesB_32 _ _ _)
  unfold signK sigB
  generalize pathB (leavesB seed dg.toNat (2 ^ dp.toNat)) leaf = path at *
  have l2 := encU_two (n := path.length) (by omega)
  have hfl : path.flatten.length = 32 * path.length := by
    rw [List.length_flatten]
    have : path.map List.length = List.replicate path.length 32 := by
      apply List.eq_replicate_iff.2
      refine ⟨by simp, fun y hy => ?_⟩
      obtain ⟨z, hz, rfl⟩ := List.mem_map.1 hy
      exact h32 z hz
    rw [this]
    simp [Nat.mul_comm]
  have hsg : (signW seed leaf (digestB text dg.toNat)).length ≤ 10000 := by
    rw [signW, chainsB_len, hdl]
    omega
  have l3 : (encU (signW seed leaf (digestB text dg.toNat)).length).length ≤ 2 := encU_two (by omega)
  simp only [encB, List.length_append]
  omega
theorem isthmuslaw06_sure (hs : Isk.Sep b w L) (hT : Ins L errT.it) (hR : Ins L rndF.it) : C Tryz.prog N.isthmuslaw06_sure #[] w fun r w' => r = .bool true ∧ Isk.Sep b w' L := by
  have hk : kCheck 1 1 = 0 := by decide
  have hz32 : zero32.length = 32 := rfl
  have hnm : namedF [107] = true := by decide
  refine C.isthmuslaw06_sure ?_
  unfold F.isthmuslaw06_sure
  repeat with_reducible refine mv.mk ?_
  refine cl (files_New hs) ?_
  rintro _ w ⟨gf, gm, rfl, hs⟩
  refine zero_hash ?_
  refine cl (isthmuslaw06_small hs) ?_
  rintro _ w ⟨rfl, hs⟩
  refine cl (keys_Open_new (name := [107]) (seed := zero32) (dg := 1) (dp := 1) hR hz32 hk (by decide) (new_find hnm) ?_ hs) ?_
  · unfold findF
    rw [new_find hnm, if_pos (by decide)]
    decide
  rintro _ w ⟨g, lv, rfl, hs⟩
  repeat (first
   | (with_reducible (first | refine st_eqls ?_ | refine st_nels ?_ | refine mv.mk ?_ | refine gd_u ?_ | refine gd_ft ?_ | refine gd_tf ?_ | refine gd_i ?_ | refine pk_t ?_ | refine pk_f ?_ | refine br_t ?_ | refine br_f ?_))
   | (with_reducible ((first | apply st_bin | apply st_ext | apply st_conv); intro k' hk; simp [go_sem, thenR_ok, bin]; refine hk _ _ ?_; clear hk k')))
  refine sp_lit8 (c := 97) hs fun x1 w hs => ?_
  refine cl (keys_Sign_ok (text := [97]) (n := 0) (.tl (.tl hR)) hz32 hk hnm (new_good _) (by decide) (by decide) .hd (by decide) (.tl .hd) (hs.sbl (.cons (.tl .hd) (.cons (.tl .hd) (.cons (.tl .hd) .all))))) ?_
  rintro _ w ⟨v1, z1, rfl, hz1, hs⟩
  repeat (first
   | (with_reducible (first | refine st_eqls ?_ | refine st_nels ?_ | refine mv.mk ?_ | refine gd_u ?_ | refine gd_ft ?_ | refine gd_tf ?_ | refine gd_i ?_ | refine pk_t ?_ | refine pk_f ?_ | refine br_t ?_ | refine br_f ?_))
   | (with_reducible ((first | apply st_bin | apply st_ext | apply st_conv); intro k' hk; simp [go_sem, thenR_ok, bin]; refine hk _ _ ?_; clear hk k')))
  refine sp_lit8 (c := 98) hs fun x2 w hs => ?_
  refine cl (keys_Sign_ok (text := [98]) (n := 1) (.tl (.tl (.tl (.tl hR)))) hz32 hk hnm hz1 (by decide) (by decide) .hd (by decide) (.tl (.tl (.tl .hd))) (hs.sbl (.cons (.tl (.tl .hd)) (.cons (.tl (.tl .hd)) (.cons (.tl (.tl .hd)) .all))))) ?_
  rintro _ w ⟨v2, z2, rfl, hz2, hs⟩
  repeat (first
   | (with_reducible (first | refine st_eqls ?_ | refine st_nels ?_ | refine mv.mk ?_ | refine gd_u ?_ | refine gd_ft ?_ | refine gd_tf ?_ | refine gd_i ?_ | refine pk_t ?_ | refine pk_f ?_ | refine br_t ?_ | refine br_f ?_))
   | (with_reducible ((first | apply st_bin | apply st_ext | apply st_conv); intro k' hk; simp [go_sem, thenR_ok, bin]; refine hk _ _ ?_; clear hk k')))
  refine sp_lit8 (c := 99) hs fun x3 w hs => ?_
  rw [show (0 + 1 + 1 : Nat) = 2 ^ Int.toNat 1 by decide] at hs
  refine cl (keys_Sign_spent hz32 hk (.tl (.tl (.tl (.tl (.tl (.tl (.tl .hd))))))) (hs.sbl (.cons (.tl (.tl .hd)) .all))) ?_
  rintro _ w ⟨y, e, rfl, hs⟩
  repeat (first
   | (with_reducible (first | refine st_eqls ?_ | refine st_nels ?_ | refine mv.mk ?_ | refine gd_u ?_ | refine gd_ft ?_ | refine gd_tf ?_ | refine gd_i ?_ | refine pk_t ?_ | refine pk_f ?_ | refine br_t ?_ | refine br_f ?_))
   | (with_reducible ((first | apply st_bin | apply st_ext | apply st_conv); intro k' hk; simp [go_sem, thenR_ok, bin]; refine hk _ _ ?_; clear hk k')))
  have hr1 : readK (signK zero32 1 1 (0 + 1) [98]) = _ := readK_sign hk (by decide)
  have hl0 := signK_len (seed := zero32) (text := [97]) (leaf := 0) hk (by decide)
  have hl1 := signK_len (seed := zero32) (text := [98]) (leaf := 0 + 1) hk (by decide)
  refine cl (keys_Leaf hs (.tl (.tl (.tl .hd))) (by omega)) ?_
  rintro _ w ⟨e2, rfl, hs⟩
  rw [hr1] at hs
  rw [hr1]
  dsimp only at hs
  obtain rfl := errF_zeroK hs .hd
  dsimp only
  repeat (first
   | (with_reducible (first | refine st_eqls ?_ | refine st_nels ?_ | refine mv.mk ?_ | refine gd_u ?_ | refine gd_ft ?_ | refine gd_tf ?_ | refine gd_i ?_ | refine pk_t ?_ | refine pk_f ?_ | refine br_t ?_ | refine br_f ?_))
   | (with_reducible ((first | apply st_bin | apply st_ext | apply st_conv); intro k' hk; simp [go_sem, thenR_ok, bin]; refine hk _ _ ?_; clear hk k')))
  refine cl (isthmuslaw06_num hs (.tl (.tl (.tl (.tl (.tl (.tl (.tl (.tl (.tl (.tl (.tl hT))))))))))) (.tl .hd)) ?_
  rintro _ w ⟨rfl, hs⟩
  repeat (first
   | (with_reducible (first | refine st_eqls ?_ | refine st_nels ?_ | refine mv.mk ?_ | refine gd_u ?_ | refine gd_ft ?_ | refine gd_tf ?_ | refine gd_i ?_ | refine pk_t ?_ | refine pk_f ?_ | refine br_t ?_ | refine br_f ?_))
   | (with_reducible ((first | apply st_bin | apply st_ext | apply st_conv); intro k' hk; simp [go_sem, thenR_ok, bin]; refine hk _ _ ?_; clear hk k')))
  refine cl (keys_SRoot (hs.sbl (.cons (.tl (.tl .hd)) .all)) (.tl (.tl (.tl (.tl (.tl (.tl (.tl (.tl (.tl (.tl hR)))))))))) hz32 (.tl (.tl (.tl (.tl (.tl (.tl (.tl (.tl (.tl .hd))))))))) (by rw [leavesB_len]; decide)) ?_
  rintro _ w ⟨rfl, hs⟩
  refine gd_i ?_
  refine cl (isthmuslaw06_small hs) ?_
  rintro _ w ⟨rfl, hs⟩
  refine gd_i ?_
  refine sp_brow (E := T.uint8) (by_ := 1) hs (by kernel_rfl) [97] rfl rfl (by decide) (by decide) fun g5 w hs => ?_
  refine gd_i ?_
  refine sp_mark (T := T.sl_uint8) (by_ := 1) hs (by kernel_rfl) (by kernel_rfl) rfl fun w hs => ?_
  repeat (first
   | (with_reducible (first | refine st_eqls ?_ | refine st_nels ?_ | refine mv.mk ?_ | refine gd_u ?_ | refine gd_ft ?_ | refine gd_tf ?_ | refine gd_i ?_ | refine pk_t ?_ | refine pk_f ?_ | refine br_t ?_ | refine br_f ?_))
   | (with_reducible ((first | apply st_bin | apply st_ext | apply st_conv); intro k' hk; simp [go_sem, thenR_ok, bin]; refine hk _ _ ?_; clear hk k')))
  have hrl : (rootB (leavesB zero32 (1 : Int).toNat (2 ^ (1 : Int).toNat))).length = 32 := rootB_len _ rfl (leavesB_32 _ _ _)
  refine cl (keys_Verify (dg := 1) (dp := 1) (text := [97]) hs (.tl (.tl (.tl (.tl (.tl (.tl (.tl (.tl (.tl (.tl (.tl (.tl hR)))))))))))) .hd (.tl (.tl (.tl (.tl (.tl (.tl (.tl (.tl (.tl .hd))))))))) (by omega) (by decide) hrl) ?_
  rintro r w hs
  have hv : verifyK (rootB (leavesB zero32 (1 : Int).toNat (2 ^ (1 : Int).toNat))) 1 1 [97] (signK zero32 1 1 0 [97]) = 0 := by
    rw [verify_sign hk (by decide)]
    exact if_pos rfl
  rw [hv] at hs
  obtain rfl := errF_zeroK hs .hd
  repeat (first
   | (with_reducible (first | refine st_eqls ?_ | refine st_nels ?_ | refine mv.mk ?_ | refine gd_u ?_ | refine gd_ft ?_ | refine gd_tf ?_ | refine gd_i ?_ | refine pk_t ?_ | refine pk_f ?_ | refine br_t ?_ | refine br_f ?_))
   | (with_reducible ((first | apply st_bin | apply st_ext | apply st_conv); intro k' hk; simp [go_sem, thenR_ok, bin]; refine hk _ _ ?_; clear hk k')))
  refine cl (keys_Left (hs.sbl (.cons (.tl (.tl .hd)) .all)) hz32 (.tl (.tl (.tl (.tl (.tl (.tl (.tl (.tl (.tl (.tl (.tl .hd))))))))))) (by rw [leavesB_len]; decide) (by rw [leavesB_len]; exact Nat.le_refl _)) ?_
  rintro _ w ⟨rfl, hs⟩
  rw [leavesB_len, Nat.sub_self]
  repeat (first
   | (with_reducible (first | refine st_eqls ?_ | refine st_nels ?_ | refine mv.mk ?_ | refine gd_u ?_ | refine gd_ft ?_ | refine gd_tf ?_ | refine gd_i ?_ | refine pk_t ?_ | refine pk_f ?_ | refine br_t ?_ | refine br_f ?_))
   | (with_reducible ((first | apply st_bin | apply st_ext | apply st_conv); intro k' hk; simp [go_sem, thenR_ok, bin]; refine hk _ _ ?_; clear hk k')))
  exact ⟨rfl, hs.sbl (.drop (.drop (.drop (.drop (.drop (.drop (.drop (.drop (.drop (.drop (.drop (.drop (.drop .all)))))))))))))⟩
end
end Go.Proofs.YtbbmgkbinnomgaaGreatDoor
