/- Keys of the document: is a text signed so. -/
import Derived.Test.YtbbmgkbinnomgaaGreatDoorQ5
import Derived.Test.YtbbmgkbinnomgaaGreatDoorJ1
import Derived.Test.YtbbmgkbinnomgaaGreatDoorL2
set_option linter.unusedVariables false
set_option linter.unusedSimpArgs false
set_option linter.unusedSectionVars false
namespace Go.Proofs.YtbbmgkbinnomgaaGreatDoor
open Go Go.Isk Go.RowKit
set_option maxRecDepth 20000
section
variable {b : Base} {w : World} {L R : List It} {g : Nat} {v sv tv : Value} {cs : List Value} {l text sign root : Bytes} {s : Rdr} {most : Nat} {dg dp : Int}
theorem isthmusref06_Check (hs : Isk.Sep b w L) : C Tryz.prog N.isthmusref06_Check #[.agg #[.int .i64 dg, .int .i64 dp]] w fun r w' => r = .int .i64 (kCheck dg dp) ∧ Isk.Sep b w' L := by
  refine C.isthmusref06_Check ?_
  unfold F.isthmusref06_Check
  refine sp_box (cs := paraC (.int .i64 dg) (.int .i64 dp)) hs rfl fun g w hs => ?_
  repeat (first
   | (with_reducible refine para.a0 ?_)
   | ((with_reducible apply para.r0 hs); (· (with_reducible (repeat (first | exact .blk | exact .rng | apply Rng.tl)))))
   | (with_reducible refine para.a1 ?_)
   | ((with_reducible apply para.r1 hs); (· (with_reducible (repeat (first | exact .blk | exact .rng | apply Rng.tl)))))
   | (with_reducible (first | refine mv.mk ?_ | refine gd_u ?_ | refine gd_ft ?_ | refine gd_tf ?_ | refine gd_i ?_ | refine pk_t ?_ | refine pk_f ?_ | refine br_t ?_ | refine br_f ?_ | refine sp_boxa hs fun g w hs => ?_))
   | (with_reducible ((first | apply st_bin); intro k' hk; simp [go_sem, thenR_ok, bin]; refine hk _ _ ?_; clear hk k')))
  by_cases c1 : dg < 1
  · rw [decide_eq_true c1]
    repeat (first
     | (with_reducible (first | refine mv.mk ?_ | refine gd_u ?_ | refine gd_ft ?_ | refine gd_tf ?_ | refine gd_i ?_ | refine pk_t ?_ | refine pk_f ?_ | refine br_t ?_ | refine br_f ?_ | refine sp_boxa hs fun g w hs => ?_))
     | (with_reducible ((first | apply st_bin); intro k' hk; simp [go_sem, thenR_ok, bin]; refine hk _ _ ?_; clear hk k')))
    exact ⟨by rw [kCheck, if_pos (by omega)], hs.drop .hd⟩
  rw [decide_eq_false c1]
  repeat (first
   | (with_reducible refine para.a0 ?_)
   | ((with_reducible apply para.r0 hs); (· (with_reducible (repeat (first | exact .blk | exact .rng | apply Rng.tl)))))
   | (with_reducible refine para.a1 ?_)
   | ((with_reducible apply para.r1 hs); (· (with_reducible (repeat (first | exact .blk | exact .rng | apply Rng.tl)))))
   | (with_reducible (first | refine mv.mk ?_ | refine gd_u ?_ | refine gd_ft ?_ | refine gd_tf ?_ | refine gd_i ?_ | refine pk_t ?_ | refine pk_f ?_ | refine br_t ?_ | refine br_f ?_ | refine sp_boxa hs fun g w hs => ?_))
   | (with_reducible ((first | apply st_bin); intro k' hk; simp [go_sem, thenR_ok, bin]; refine hk _ _ ?_; clear hk k')))
  by_cases c2 : 32 < dg
  · rw [decide_eq_true c2]
    repeat (first
     | (with_reducible (first | refine mv.mk ?_ | refine gd_u ?_ | refine gd_ft ?_ | refine gd_tf ?_ | refine gd_i ?_ | refine pk_t ?_ | refine pk_f ?_ | refine br_t ?_ | refine br_f ?_ | refine sp_boxa hs fun g w hs => ?_))
     | (with_reducible ((first | apply st_bin); intro k' hk; simp [go_sem, thenR_ok, bin]; refine hk _ _ ?_; clear hk k')))
    exact ⟨by rw [kCheck, if_pos (by omega)], hs.drop .hd⟩
  rw [decide_eq_false c2]
  repeat (first
   | (with_reducible refine para.a0 ?_)
   | ((with_reducible apply para.r0 hs); (· (with_reducible (repeat (first | exact .blk | exact .rng | apply Rng.tl)))))
   | (with_reducible refine para.a1 ?_)
   | ((with_reducible apply para.r1 hs); (· (with_reducible (repeat (first | exact .blk | exact .rng | apply Rng.tl)))))
   | (with_reducible (first | refine mv.mk ?_ | refine gd_u ?_ | refine gd_ft ?_ | refine gd_tf ?_ | refine gd_i ?_ | refine pk_t ?_ | refine pk_f ?_ | refine br_t ?_ | refine br_f ?_ | refine sp_boxa hs fun g w hs => ?_))
   | (with_reducible ((first | apply st_bin); intro k' hk; simp [go_sem, thenR_ok, bin]; refine hk _ _ ?_; clear hk k')))
  by_cases c3 : dp < 0
  · rw [decide_eq_true c3]
    repeat (first
     | (with_reducible (first | refine mv.mk ?_ | refine gd_u ?_ | refine gd_ft ?_ | refine gd_tf ?_ | refine gd_i ?_ | refine pk_t ?_ | refine pk_f ?_ | refine br_t ?_ | refine br_f ?_ | refine sp_boxa hs fun g w hs => ?_))
     | (with_reducible ((first | apply st_bin); intro k' hk; simp [go_sem, thenR_ok, bin]; refine hk _ _ ?_; clear hk k')))
    exact ⟨by rw [kCheck, if_pos (by omega)], hs.drop .hd⟩
  rw [decide_eq_false c3]
  repeat (first
   | (with_reducible refine para.a0 ?_)
   | ((with_reducible apply para.r0 hs); (· (with_reducible (repeat (first | exact .blk | exact .rng | apply Rng.tl)))))
   | (with_reducible refine para.a1 ?_)
   | ((with_reducible apply para.r1 hs); (· (with_reducible (repeat (first | exact .blk | exact .rng | apply Rng.tl)))))
   | (with_reducible (first | refine mv.mk ?_ | refine gd_u ?_ | refine gd_ft ?_ | refine gd_tf ?_ | refine gd_i ?_ | refine pk_t ?_ | refine pk_f ?_ | refine br_t ?_ | refine br_f ?_ | refine sp_boxa hs fun g w hs => ?_))
   | (with_reducible ((first | apply st_bin); intro k' hk; simp [go_sem, thenR_ok, bin]; refine hk _ _ ?_; clear hk k')))
  by_cases c4 : 10 < dp
  · rw [decide_eq_true c4]
    repeat (first
     | (with_reducible (first | refine mv.mk ?_ | refine gd_u ?_ | refine gd_ft ?_ | refine gd_tf ?_ | refine gd_i ?_ | refine pk_t ?_ | refine pk_f ?_ | refine br_t ?_ | refine br_f ?_ | refine sp_boxa hs fun g w hs => ?_))
     | (with_reducible ((first | apply st_bin); intro k' hk; simp [go_sem, thenR_ok, bin]; refine hk _ _ ?_; clear hk k')))
    exact ⟨by rw [kCheck, if_pos (by omega)], hs.drop .hd⟩
  rw [decide_eq_false c4]
  repeat (first
   | (with_reducible (first | refine mv.mk ?_ | refine gd_u ?_ | refine gd_ft ?_ | refine gd_tf ?_ | refine gd_i ?_ | refine pk_t ?_ | refine pk_f ?_ | refine br_t ?_ | refine br_f ?_ | refine sp_boxa hs fun g w hs => ?_))
   | (with_reducible ((first | apply st_bin); intro k' hk; simp [go_sem, thenR_ok, bin]; refine hk _ _ ?_; clear hk k')))
  exact ⟨by rw [kCheck, if_neg (by omega)], hs.drop .hd⟩
theorem sp_vUint (h : Isk.Sep b w L) (hm : Ins L (rdvF cs s).it) (hl : most < 18446744073709551616) : C Tryz.prog N.isthmusref02_ReadUint #[.agg cs.toArray, .int .u64 most] w fun r w' => ∃ ds, r = .tuple #[.agg ds.toArray, .int .u64 (rU most s).2] ∧ Isk.Sep b w' ((rdvF ds (rU most s).1).it :: L) :=
  (vr_call (Q := fun ds r w' => r = .tuple #[.agg ds.toArray, .int .u64 (rU most s).2]) h hm fun B hB hB2 => (isthmusref02_ReadUint hB hl hB2).mono fun r w' ⟨ds, e, h2, h3⟩ => ⟨ds, e, h2, h3⟩).mono fun r w' ⟨ds, e, _, h2⟩ => ⟨ds, e, h2⟩
theorem isthmusref06_Parts (hs : Isk.Sep b w L) (hm : Ins L (byF v l).it) (hl : l.length ≤ 2147483648) :
    C Tryz.prog N.isthmusref06_Parts #[v] w fun r w' => ∃ cv pv, r = .tuple #[.agg #[.int .i64 (readK l).1.leaf, cv, pv], .int .i64 (readK l).2] ∧ Isk.Sep b w' ((byF cv (readK l).1.chain).it :: (listF hshF 32 pv (readK l).1.path).it :: L) := by
  refine C.isthmusref06_Parts ?_
  unfold F.isthmusref06_Parts
  refine sp_newr hs (by kernel_rfl) fun g2 w hs => ?_
  repeat with_reducible refine mv.mk ?_
  refine st_build (cells := #[.int .i64 0, .slice none 0 0, .slice none 0 0]) (by kernel_rfl) ?_
  refine sp_newr hs (by kernel_rfl) fun g4 w hs => ?_
  refine sp_setr (ds := [.int .i64 0, .slice none 0 0, .slice none 0 0]) hs .hd (by kernel_rfl) rfl (by simp [Value.oneCell']) fun w hs => ?_
  repeat with_reducible refine mv.mk ?_
  refine lit_rd hs (.tl (.tl hm)) hl fun hs => ?_
  refine cl (sp_vUint (most := 1023) hs .hd (by decide)) ?_
  rintro _ w ⟨d1, rfl, hs⟩
  have hlf := rU_most (most := 1023) (s := some l)
  have hd1 := hs.ok rdvF_ok (cs := d1) .hd
  repeat (first
   | (with_reducible (first | refine st_nels ?_ | refine mv.mk ?_ | refine br_t ?_ | refine br_f ?_))
   | (with_reducible ((first | apply st_bin | apply st_ext | apply st_conv); intro k' hk; simp [go_sem, thenR_ok, bin]; refine hk _ _ ?_; clear hk k'))
   | ((with_reducible apply sp_newr hs); (· kernel_rfl); intro g w hs))
  refine sp_setr hs .hd (by kernel_rfl) hd1.1 hd1.2 fun w hs => ?_
  repeat with_reducible refine mv.mk ?_
  refine sp_loadall hs .hd (by kernel_rfl) hd1.1 ?_
  refine cl (sp_vBytes (most := 4096) (s := (rU 1023 (some l)).1) hs (by repeat (first | with_reducible exact Ins.hd | with_reducible apply Ins.tl)) (by decide)) ?_
  rintro _ w ⟨d2, cv, rfl, hs⟩
  have hd2 := hs.ok rdvF_ok (cs := d2) (.tl .hd)
  obtain ⟨A, c, hcv⟩ := bytesF_slice hs .hd
  have hcvc : cv.cells = #[cv] ∧ cv.oneCell' = true := by subst hcv; exact ⟨rfl, rfl⟩
  repeat (first
   | (with_reducible (first | refine st_nels ?_ | refine mv.mk ?_ | refine br_t ?_ | refine br_f ?_))
   | (with_reducible ((first | apply st_bin | apply st_ext | apply st_conv); intro k' hk; simp [go_sem, thenR_ok, bin]; refine hk _ _ ?_; clear hk k'))
   | ((with_reducible apply sp_newr hs); (· kernel_rfl); intro g w hs))
  refine sp_all hs (by first | ((repeat (first | with_reducible exact Has.hd | with_reducible apply Has.tl)); done) | (repeat (first | exact Has.hd | with_reducible apply Has.tl))) (by kernel_rfl) hd1.1 hd2.1 hd2.2 fun w hs => ?_
  refine st_of (fieldAt_run (off := 1) (by kernel_rfl) _ _ _) ?_
  refine sp_store1 (p := 1) hs (t := T.isthmusref06_Signature) (by first | ((repeat (first | with_reducible exact Has.hd | with_reducible apply Has.tl)); done) | (repeat (first | exact Has.hd | with_reducible apply Has.tl))) (by kernel_rfl) hcvc (by simp) fun w hs => ?_
  refine sp_loadall hs (t := T.isthmusref02_Reader) (by first | ((repeat (first | with_reducible exact Has.hd | with_reducible apply Has.tl)); done) | (repeat (first | exact Has.hd | with_reducible apply Has.tl))) (by kernel_rfl) hd2.1 ?_
  refine cl (sp_vUint (most := 10) (s := (rB 4096 (rU 1023 (some l)).1).1) hs (by repeat (first | with_reducible exact Ins.hd | with_reducible apply Ins.tl)) (by decide)) ?_
  rintro _ w ⟨d3, rfl, hs⟩
  have hmst := rU_most (most := 10) (s := (rB 4096 (rU 1023 (some l)).1).1)
  generalize hsd : rU 10 (rB 4096 (rU 1023 (some l)).1).1 = d at *
  have hd3 := hs.ok rdvF_ok (cs := d3) .hd
  repeat (first
   | (with_reducible (first | refine st_nels ?_ | refine mv.mk ?_ | refine br_t ?_ | refine br_f ?_))
   | (with_reducible ((first | apply st_bin | apply st_ext | apply st_conv); intro k' hk; simp [go_sem, thenR_ok, bin]; refine hk _ _ ?_; clear hk k'))
   | ((with_reducible apply sp_newr hs); (· kernel_rfl); intro g w hs))
  refine sp_all hs (t := T.isthmusref02_Reader) (by first | ((repeat (first | with_reducible exact Has.hd | with_reducible apply Has.tl)); done) | (repeat (first | exact Has.hd | with_reducible apply Has.tl))) (by kernel_rfl) hd2.1 hd3.1 hd3.2 fun w hs => ?_
  repeat with_reducible refine mv.mk ?_
  refine st_of (w_u2i w (by omega)) ?_
  refine st_of (fieldAt_run (off := 0) (by kernel_rfl) _ _ _) ?_
  refine sp_store1 (p := 0) hs (t := T.isthmusref06_Signature) (by first | ((repeat (first | with_reducible exact Has.hd | with_reducible apply Has.tl)); done) | (repeat (first | exact Has.hd | with_reducible apply Has.tl))) (by kernel_rfl) ⟨rfl, rfl⟩ (by simp) fun w hs => ?_
  simp only [List.set_cons_zero, List.set_cons_succ] at hs
  repeat with_reducible refine mv.mk ?_
  replace hs := hs.grow0 hshF T.api_Hash 32
  refine lp_by (fun us w' => ∃ (i : Nat) (sv : Value) (ds : List Value), us = [.int .u64 (i : Int)] ∧ i ≤ d.2 ∧ Isk.Sep b w' ((rdvF ds (gList rH i d.1).1).it :: blkI g T.isthmusref02_Reader ds :: blkI g4 T.isthmusref06_Signature [.int .i64 ((rU 1023 (some l)).2 : Int), cv, sv] :: growI hshF T.api_Hash 32 sv (gList rH i d.1).2 :: (byF cv (rB 4096 (rU 1023 (some l)).1).2).it :: resI Tryz.prog g2 T.isthmusref06_Signature :: L)) (fun us _ => match us with | [.int _ i] => d.2 - i.toNat | _ => 0) ⟨0, _, d3, rfl, Nat.zero_le _, hs.sbl (by repeat (first | with_reducible exact Sbl.all | with_reducible exact Sbl.nil | refine Sbl.cons (by first | ((repeat (first | with_reducible exact Has.hd | with_reducible apply Has.tl)); done) | (repeat (first | exact Has.hd | with_reducible apply Has.tl))) ?_ | refine Sbl.drop ?_))⟩ ?_
  clear hs
  rintro x1 w ⟨i, sv, ds, hx1, hi, hs⟩
  simp only [List.cons.injEq, and_true] at hx1
  rw [hx1]
  have hds := hs.ok rdvF_ok (cs := ds) .hd
  repeat (first
   | (with_reducible (first | refine st_nels ?_ | refine mv.mk ?_ | refine br_t ?_ | refine br_f ?_))
   | (with_reducible ((first | apply st_bin | apply st_ext | apply st_conv); intro k' hk; simp [go_sem, thenR_ok, bin]; refine hk _ _ ?_; clear hk k'))
   | ((with_reducible apply sp_newr hs); (· kernel_rfl); intro g w hs))
  refine br_split (fun hq => ?_) (fun hq => ?_)
  · have hq := of_decide_eq_true hq
    have hid' : i < d.2 := by omega
    refine sp_newr hs (by kernel_rfl) fun g9 w hs => ?_
    refine sp_loadall hs (t := T.isthmusref02_Reader) (by first | ((repeat (first | with_reducible exact Has.hd | with_reducible apply Has.tl)); done) | (repeat (first | exact Has.hd | with_reducible apply Has.tl))) (by kernel_rfl) hds.1 ?_
    refine cl (sp_vHash (s := (gList rH i d.1).1) hs (by repeat (first | with_reducible exact Ins.hd | with_reducible apply Ins.tl))) ?_
    rintro _ w ⟨ds', rfl, hs⟩
    have hds' := hs.ok rdvF_ok (cs := ds') .hd
    have hrl : (rH (gList rH i d.1).1).2.length = 32 := rH_len
    have hll := gList_len rH i d.1
    repeat (first
     | (with_reducible (first | refine st_nels ?_ | refine mv.mk ?_ | refine br_t ?_ | refine br_f ?_))
     | (with_reducible ((first | apply st_bin | apply st_ext | apply st_conv); intro k' hk; simp [go_sem, thenR_ok, bin]; refine hk _ _ ?_; clear hk k'))
     | ((with_reducible apply sp_newr hs); (· kernel_rfl); intro g w hs))
    refine sp_all hs (t := T.isthmusref02_Reader) (by first | ((repeat (first | with_reducible exact Has.hd | with_reducible apply Has.tl)); done) | (repeat (first | exact Has.hd | with_reducible apply Has.tl))) (by kernel_rfl) hds.1 hds'.1 hds'.2 fun w hs => ?_
    refine sp_setr (ds := u8s (rH (gList rH i d.1).1).2) hs (by first | ((repeat (first | with_reducible exact Has.hd | with_reducible apply Has.tl)); done) | (repeat (first | exact Has.hd | with_reducible apply Has.tl))) (by kernel_rfl) ((u8s_length _).trans hrl) (u8s_one _) fun w hs => ?_
    refine st_of (fieldAt_run (off := 2) (by kernel_rfl) _ _ _) ?_
    refine sp_load1 (p := 2) hs (t := T.isthmusref06_Signature) (by first | ((repeat (first | with_reducible exact Has.hd | with_reducible apply Has.tl)); done) | (repeat (first | exact Has.hd | with_reducible apply Has.tl))) (by kernel_rfl) rfl ?_
    refine sp_loadall hs (t := T.api_Hash) (by first | ((repeat (first | with_reducible exact Has.hd | with_reducible apply Has.tl)); done) | (repeat (first | exact Has.hd | with_reducible apply Has.tl))) (by kernel_rfl) ((u8s_length _).trans hrl) ?_
    replace hs := Sep.hash hs hrl
    refine sp_lita hs tHashes (by rw [u8s_length, hrl]) (by decide) fun u w hs => ?_
    refine sp_push (a := (rH (gList rH i d.1).1).2) hs (by first | ((repeat (first | with_reducible exact Has.hd | with_reducible apply Has.tl)); done) | (repeat (first | exact Has.hd | with_reducible apply Has.tl))) tHashes .sl (by repeat (first | with_reducible exact Ins.hd | with_reducible apply Ins.tl)) (u8s_one _) (by rw [hll]; omega) (by rw [hll]; omega) fun v' w hs => ?_
    refine st_of (fieldAt_run (off := 2) (by kernel_rfl) _ _ _) ?_
    refine sp_store1 (p := 2) hs (t := T.isthmusref06_Signature) (by first | ((repeat (first | with_reducible exact Has.hd | with_reducible apply Has.tl)); done) | (repeat (first | exact Has.hd | with_reducible apply Has.tl))) (by kernel_rfl) (hs.gcells (by first | ((repeat (first | with_reducible exact Has.hd | with_reducible apply Has.tl)); done) | (repeat (first | exact Has.hd | with_reducible apply Has.tl)))) (by simp) fun w hs => ?_
    simp only [List.set_cons_zero, List.set_cons_succ] at hs
    have hadd : ∀ (o1 o2 : Operand), (bin .add T.uint64 o1 o2 (.int .u64 (i : Int)) (.int .u64 1)).run Tryz.prog w = .ok (.int .u64 ((i + 1 : Nat) : Int)) w := fun o1 o2 => by
      have : IntKind.u64.wrap ((i : Int) + 1) = ((i + 1 : Nat) : Int) := by rw [u64_wrap]; omega
      simp [go_sem, bin, this]
    repeat with_reducible refine mv.mk ?_
    refine st_of (hadd _ _) ?_
    repeat with_reducible refine mv.mk ?_
    refine ⟨⟨i + 1, v', ds', rfl, by omega, hs.sbl (by repeat (first | with_reducible exact Sbl.all | with_reducible exact Sbl.nil | refine Sbl.cons (by first | ((repeat (first | with_reducible exact Has.hd | with_reducible apply Has.tl)); done) | (repeat (first | exact Has.hd | with_reducible apply Has.tl))) ?_ | refine Sbl.drop ?_))⟩, ?_⟩
    show d.2 - ((i + 1 : Nat) : Int).toNat < d.2 - (i : Int).toNat
    omega
  · have hq := of_decide_eq_false hq
    obtain rfl : i = d.2 := by omega
    refine sp_loadall hs (t := T.isthmusref02_Reader) (by first | ((repeat (first | with_reducible exact Has.hd | with_reducible apply Has.tl)); done) | (repeat (first | exact Has.hd | with_reducible apply Has.tl))) (by kernel_rfl) hds.1 ?_
    refine cl (sp_vDone hs .hd) ?_
    rintro _ w ⟨e, rfl, he, hs⟩
    refine st_of (n_neq _) ?_
    by_cases hd : (gList rH d.2 d.1).1 = some []
    · rw [he.2 hd]
      have e1 : readK l = (⟨(rU 1023 (some l)).2, (rB 4096 (rU 1023 (some l)).1).2, (gList rH d.2 d.1).2⟩, 0) := by
        subst hsd
        rw [readK, if_pos (show (gSign (some l)).1 = some [] from hd)]
        rfl
      rw [e1]
      refine br_f ?_
      have hsv1 := (hs.gcells (.tl (.tl (.tl .hd)))).2
      replace hs := hs.growF (.tl (.tl (.tl .hd)))
      refine sp_loadall hs (t := T.isthmusref06_Signature) (by first | ((repeat (first | with_reducible exact Has.hd | with_reducible apply Has.tl)); done) | (repeat (first | exact Has.hd | with_reducible apply Has.tl))) (by kernel_rfl) rfl ?_
      refine sp_setr (ds := [.int .i64 ((rU 1023 (some l)).2 : Int), cv, sv]) hs (by first | ((repeat (first | with_reducible exact Has.hd | with_reducible apply Has.tl)); done) | (repeat (first | exact Has.hd | with_reducible apply Has.tl))) (by kernel_rfl) rfl (by
        intro u hu
        simp only [List.mem_cons, List.not_mem_nil, or_false] at hu
        rcases hu with rfl | rfl | rfl
        · rfl
        · exact hcvc.2
        · exact hsv1) fun w hs => mv.mk (sp_rc hs .hd (by kernel_rfl) rfl ?_)
      exact ⟨_, _, rfl, hs.sbl (by repeat (first | with_reducible exact Sbl.all | with_reducible exact Sbl.nil | refine Sbl.cons (by first | ((repeat (first | with_reducible exact Has.hd | with_reducible apply Has.tl)); done) | (repeat (first | exact Has.hd | with_reducible apply Has.tl))) ?_ | refine Sbl.drop ?_))⟩
    · have he' : e ≠ 0 := fun e0 => hd (he.1 e0)
      have e1 : readK l = (noSign, 3) := by
        subst hsd
        rw [readK, if_neg (show ¬ (gSign (some l)).1 = some [] from hd)]
      rw [e1, decide_eq_false he']
      refine br_t ?_
      refine st_build (cells := #[.int .i64 0, .slice none 0 0, .slice none 0 0]) (by kernel_rfl) ?_
      refine sp_setr (ds := [.int .i64 0, .slice none 0 0, .slice none 0 0]) hs (by first | ((repeat (first | with_reducible exact Has.hd | with_reducible apply Has.tl)); done) | (repeat (first | exact Has.hd | with_reducible apply Has.tl))) (by kernel_rfl) rfl (by simp [Value.oneCell']) fun w hs => mv.mk (sp_rc hs .hd (by kernel_rfl) rfl ?_)
      replace hs := hs.grow0 hshF T.api_Hash 32
      replace hs := hs.growF .hd
      replace hs := hs.fact (f := byF (.slice none 0 0) []) (SlS.nil 1)
      exact ⟨_, _, rfl, hs.sbl (by repeat (first | with_reducible exact Sbl.all | with_reducible exact Sbl.nil | refine Sbl.cons (by first | ((repeat (first | with_reducible exact Has.hd | with_reducible apply Has.tl)); done) | (repeat (first | exact Has.hd | with_reducible apply Has.tl))) ?_ | refine Sbl.drop ?_))⟩
end
end Go.Proofs.YtbbmgkbinnomgaaGreatDoor
