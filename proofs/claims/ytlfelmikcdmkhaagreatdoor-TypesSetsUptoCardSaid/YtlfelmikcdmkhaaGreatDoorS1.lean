/- Sets: read, in the program and in the document. -/
import Derived.Test.YtlfelmikcdmkhaaGreatDoorSX
import Derived.Test.YtlfelmikcdmkhaaGreatDoorTV
set_option linter.unusedVariables false
set_option linter.unusedSimpArgs false
set_option linter.unusedSectionVars false
namespace Go.Proofs.YtlfelmikcdmkhaaGreatDoor
open Go Go.Isk Go.RowKit
section
variable {b : Base} {w : World} {L R : List It} {g : Nat} {v sv : Value} {cs : List Value} {s : Rdr} {l : Bytes}
theorem lit_vali {a : Bytes} {c : Int} {h : Bytes} {w : World} {k : Value → World → Prop} (hh : h.length = 32)
    (hk : k (.agg (valiC (str a) (u8s h) (.int .i64 c)).toArray) w) :
    o1 Tryz.prog (Instr.build T.api_Validator #[(0, str a), (1, .agg (u8s h).toArray), (2, .int .i64 c)]) w k := by
  have hl := u8s_len hh
  refine st_lit (ss := [1, 32, 1]) (n := 34) [str a, .agg (u8s h).toArray, .int .i64 c] rfl (by simp [Value.cells, str, hl]) (by kernel_rfl) fun zs hz _ => ?_
  rw [show List.sum [1, 32, 1] = 34 from rfl, List.drop_of_length_le (by omega)]
  simpa [Value.cells, valiC, str] using hk
theorem types_getSet (hs : Sep b w L) (hm : Has L (rdI g s) R) : C Tryz.prog N.types_getSet #[.pointer (some ⟨g, 0, none⟩)] w fun r w' => Sep b w' ((listF valiF 34 r (gSet s).2).it :: rdI g (gSet s).1 :: R) := by
  replace hs := hs.perm hm.perm
  refine C.types_getSet ?_
  unfold F.types_getSet
  repeat with_reducible refine mv.mk ?_
  refine cl (sp_rCount hs (by first | ((repeat (first | with_reducible exact Has.hd | with_reducible apply Has.tl)); done) | (repeat (first | exact Has.hd | with_reducible apply Has.tl))) (most := 32) (by decide)) ?_; rintro _ w ⟨rfl, hs⟩; repeat with_reducible refine mv.mk ?_
  have hmst := rC_most (most := 32) (s := s)
  replace hs := hs.grow0 valiF T.api_Validator 34
  unfold gSet
  generalize hsd : rC 32 s = d at *
  refine lp_by (fun vs w' => ∃ (i : Nat) (sv : Value), vs = [sv, .int .i64 i] ∧ i ≤ d.2 ∧ Sep b w' (rdI g (gList gVal i d.1).1 :: growI valiF T.api_Validator 34 sv (gList gVal i d.1).2 :: R))
    (fun vs _ => match vs with | [_, .int _ m] => d.2 - m.toNat | _ => 0) ⟨0, _, rfl, Nat.zero_le _, hs.sbl (by repeat (first | with_reducible exact Sbl.all | with_reducible exact Sbl.nil | refine Sbl.cons (by first | ((repeat (first | with_reducible exact Has.hd | with_reducible apply Has.tl)); done) | (repeat (first | exact Has.hd | with_reducible apply Has.tl))) ?_ | refine Sbl.drop ?_))⟩ ?_
  clear hs
  rintro x w ⟨i, sv, hx, hi, hs⟩
  simp only [List.cons.injEq, and_true] at hx
  simp only [hx.1, hx.2]
  repeat (first
   | (with_reducible (first | refine st_lens ?_ | refine st_eqls ?_ | refine st_nels ?_ | refine tk_eqls ?_ | refine tk_nels ?_ | refine mv.mk ?_ | refine nk_p ?_ | refine gdT_i ?_ | refine gdT_ft ?_ | refine gdT_tf ?_ | refine gdT_u ?_ | refine gd_u ?_ | refine gd_ft ?_ | refine gd_tf ?_ | refine gd_i ?_ | refine pk_t ?_ | refine pk_f ?_ | refine br_t ?_ | refine br_f ?_ | refine sp_boxa hs fun g w hs => ?_))
   | (with_reducible ((first | apply st_bin | apply st_ext | apply st_len | apply st_un | apply st_conv | apply st_mki | apply st_fld | apply st_cap | apply st_max | apply st_min | apply st_ixv | apply st_mkf); intro k' hk; simp [go_sem, thenR_ok, bin]; refine hk _ _ ?_; clear hk k'))
   | ((with_reducible (first | apply tk_bin | apply tk_ext | apply tk_len | apply tk_un)); (· intro w; simp [go_sem, bin]; rfl))
   | ((with_reducible apply sp_newr hs); (· kernel_rfl); intro g w hs))
  refine br_split (fun hb => ?_) (fun hb => ?_)
  · have hi' : i < d.2 := by have := of_decide_eq_true hb; omega
    repeat with_reducible refine mv.mk ?_
    refine cl (sp_rText hs (by first | ((repeat (first | with_reducible exact Has.hd | with_reducible apply Has.tl)); done) | (repeat (first | exact Has.hd | with_reducible apply Has.tl))) (most := 64) (by decide)) ?_; rintro _ w ⟨rfl, hs⟩; repeat with_reducible refine mv.mk ?_
    refine cl (sp_rHash hs (by first | ((repeat (first | with_reducible exact Has.hd | with_reducible apply Has.tl)); done) | (repeat (first | exact Has.hd | with_reducible apply Has.tl)))) ?_; rintro _ w ⟨rfl, hs⟩; repeat with_reducible refine mv.mk ?_
    refine cl (sp_rInt hs (by first | ((repeat (first | with_reducible exact Has.hd | with_reducible apply Has.tl)); done) | (repeat (first | exact Has.hd | with_reducible apply Has.tl)))) ?_; rintro _ w ⟨rfl, hs⟩; repeat with_reducible refine mv.mk ?_
    refine lit_vali (a := (gVal (gList gVal i d.1).1).2.name) (h := (gVal (gList gVal i d.1).1).2.key) (c := (gVal (gList gVal i d.1).1).2.power) rH_len ?_
    replace hs := hs.fact (f := valiF _ (gVal (gList gVal i d.1).1).2) ⟨rfl, gVal_ok⟩
    have hc := hs.ok valiF_ok (by repeat (first | with_reducible exact Ins.hd | with_reducible apply Ins.tl))
    refine sp_lita hs tVals hc.1 (by decide) fun v w hs => ?_
    have hll := gList_len gVal i d.1
    refine sp_push hs (by first | ((repeat (first | with_reducible exact Has.hd | with_reducible apply Has.tl)); done) | (repeat (first | exact Has.hd | with_reducible apply Has.tl))) tVals (by repeat (first | with_reducible exact Rds.sl | with_reducible exact Rds.byt | with_reducible exact Rds.row | with_reducible apply Rds.tl)) (by repeat (first | with_reducible exact Ins.hd | with_reducible apply Ins.tl)) hc.2 (by rw [hll]; omega) (by rw [hll]; omega) fun v w hs => ?_
    repeat (first
     | (with_reducible (first | refine st_lens ?_ | refine st_eqls ?_ | refine st_nels ?_ | refine tk_eqls ?_ | refine tk_nels ?_ | refine mv.mk ?_ | refine nk_p ?_ | refine gdT_i ?_ | refine gdT_ft ?_ | refine gdT_tf ?_ | refine gdT_u ?_ | refine gd_u ?_ | refine gd_ft ?_ | refine gd_tf ?_ | refine gd_i ?_ | refine pk_t ?_ | refine pk_f ?_ | refine br_t ?_ | refine br_f ?_ | refine sp_boxa hs fun g w hs => ?_))
     | (with_reducible ((first | apply st_bin | apply st_ext | apply st_len | apply st_un | apply st_conv | apply st_mki | apply st_fld | apply st_cap | apply st_max | apply st_min | apply st_ixv | apply st_mkf); intro k' hk; simp [go_sem, thenR_ok, bin]; refine hk _ _ ?_; clear hk k'))
     | ((with_reducible (first | apply tk_bin | apply tk_ext | apply tk_len | apply tk_un)); (· intro w; simp [go_sem, bin]; rfl))
     | ((with_reducible apply sp_newr hs); (· kernel_rfl); intro g w hs))
    rw [i64_succ (by omega)]
    exact ⟨⟨i + 1, _, rfl, hi', hs.sbl (by repeat (first | with_reducible exact Sbl.all | with_reducible exact Sbl.nil | refine Sbl.cons (by first | ((repeat (first | with_reducible exact Has.hd | with_reducible apply Has.tl)); done) | (repeat (first | exact Has.hd | with_reducible apply Has.tl))) ?_ | refine Sbl.drop ?_))⟩, by simp; omega⟩
  · obtain rfl : i = d.2 := by have := of_decide_eq_false hb; omega
    replace hs := hs.growF (by first | ((repeat (first | with_reducible exact Has.hd | with_reducible apply Has.tl)); done) | (repeat (first | exact Has.hd | with_reducible apply Has.tl)))
    repeat with_reducible refine mv.mk ?_
    exact hs.sbl (by repeat (first | with_reducible exact Sbl.all | with_reducible exact Sbl.nil | refine Sbl.cons (by first | ((repeat (first | with_reducible exact Has.hd | with_reducible apply Has.tl)); done) | (repeat (first | exact Has.hd | with_reducible apply Has.tl))) ?_ | refine Sbl.drop ?_))
theorem types_decode_api_Validator (hs : Sep b w L) (hm : Ins L (byF v l).it) (hl : l.length ≤ 2147483648) : C Tryz.prog N.types_decode_api_Validator #[v, .func (.func N.types_getSet) #[] #[]] w fun r w' => ∃ sv e, r = .tuple #[sv, e] ∧ Sep b w' ((listF valiF 34 sv (decN gSet [] l).1).it :: (errF e (decN gSet [] l).2).it :: L) := by
  refine C.types_decode_api_Validator ?_
  unfold F.types_decode_api_Validator
  repeat with_reducible refine mv.mk ?_
  refine cl (sp_Read hs hm hl) ?_; rintro _ w ⟨g3, rfl, hs⟩; repeat with_reducible refine mv.mk ?_
  refine cv_f (by kernel_rfl) ?_
  refine cl (types_getSet hs (by first | ((repeat (first | with_reducible exact Has.hd | with_reducible apply Has.tl)); done) | (repeat (first | exact Has.hd | with_reducible apply Has.tl)))) ?_
  rintro sv w hs
  repeat with_reducible refine mv.mk ?_
  refine cl (sp_rDone hs (by first | ((repeat (first | with_reducible exact Has.hd | with_reducible apply Has.tl)); done) | (repeat (first | exact Has.hd | with_reducible apply Has.tl)))) ?_
  rintro e w ⟨h1, h2, hs⟩
  by_cases hd : (gSet (some l)).1 = some []
  · rw [h1 hd, decN_ok hd]
    repeat (first
     | (with_reducible (first | refine st_lens ?_ | refine st_eqls ?_ | refine st_nels ?_ | refine tk_eqls ?_ | refine tk_nels ?_ | refine mv.mk ?_ | refine nk_p ?_ | refine gdT_i ?_ | refine gdT_ft ?_ | refine gdT_tf ?_ | refine gdT_u ?_ | refine gd_u ?_ | refine gd_ft ?_ | refine gd_tf ?_ | refine gd_i ?_ | refine pk_t ?_ | refine pk_f ?_ | refine br_t ?_ | refine br_f ?_ | refine sp_boxa hs fun g w hs => ?_))
     | (with_reducible ((first | apply st_bin | apply st_ext | apply st_len | apply st_un | apply st_conv | apply st_mki | apply st_fld | apply st_cap | apply st_max | apply st_min | apply st_ixv | apply st_mkf); intro k' hk; simp [go_sem, thenR_ok, bin]; refine hk _ _ ?_; clear hk k'))
     | ((with_reducible (first | apply tk_bin | apply tk_ext | apply tk_len | apply tk_un)); (· intro w; simp [go_sem, bin]; rfl))
     | ((with_reducible apply sp_newr hs); (· kernel_rfl); intro g w hs))
    exact ⟨_, _, rfl, (errF_nil hs).sbl (by repeat (first | with_reducible exact Sbl.all | with_reducible exact Sbl.nil | refine Sbl.cons (by first | ((repeat (first | with_reducible exact Has.hd | with_reducible apply Has.tl)); done) | (repeat (first | exact Has.hd | with_reducible apply Has.tl))) ?_ | refine Sbl.drop ?_))⟩
  · obtain ⟨t, x, rfl⟩ := h2 hd
    rw [decN_no hd]
    repeat (first
     | (with_reducible (first | refine st_lens ?_ | refine st_eqls ?_ | refine st_nels ?_ | refine tk_eqls ?_ | refine tk_nels ?_ | refine mv.mk ?_ | refine nk_p ?_ | refine gdT_i ?_ | refine gdT_ft ?_ | refine gdT_tf ?_ | refine gdT_u ?_ | refine gd_u ?_ | refine gd_ft ?_ | refine gd_tf ?_ | refine gd_i ?_ | refine pk_t ?_ | refine pk_f ?_ | refine br_t ?_ | refine br_f ?_ | refine sp_boxa hs fun g w hs => ?_))
     | (with_reducible ((first | apply st_bin | apply st_ext | apply st_len | apply st_un | apply st_conv | apply st_mki | apply st_fld | apply st_cap | apply st_max | apply st_min | apply st_ixv | apply st_mkf); intro k' hk; simp [go_sem, thenR_ok, bin]; refine hk _ _ ?_; clear hk k'))
     | ((with_reducible (first | apply tk_bin | apply tk_ext | apply tk_len | apply tk_un)); (· intro w; simp [go_sem, bin]; rfl))
     | ((with_reducible apply sp_newr hs); (· kernel_rfl); intro g w hs))
    refine cl (types_fault (by decide) (by decide) (by decide) hs) ?_
    rintro e w hs
    repeat with_reducible refine mv.mk ?_
    exact ⟨_, _, rfl, (hs.nilF valiF 34).sbl (by repeat (first | with_reducible exact Sbl.all | with_reducible exact Sbl.nil | refine Sbl.cons (by first | ((repeat (first | with_reducible exact Has.hd | with_reducible apply Has.tl)); done) | (repeat (first | exact Has.hd | with_reducible apply Has.tl))) ?_ | refine Sbl.drop ?_))⟩
theorem types_DecodeSet (hs : Sep b w L) (hm : Ins L (byF v l).it) (hl : l.length ≤ 2147483648) : C Tryz.prog N.types_DecodeSet #[v] w fun r w' => ∃ sv e, r = .tuple #[sv, e] ∧ Sep b w' ((listF valiF 34 sv (decN gSet [] l).1).it :: (errF e (decN gSet [] l).2).it :: L) := by
  refine C.types_DecodeSet ?_
  unfold F.types_DecodeSet
  repeat with_reducible refine mv.mk ?_
  refine cl (types_decode_api_Validator hs hm hl) ?_; rintro _ w ⟨sv, e, rfl, hs⟩
  repeat (first
   | (with_reducible (first | refine st_lens ?_ | refine st_eqls ?_ | refine st_nels ?_ | refine tk_eqls ?_ | refine tk_nels ?_ | refine mv.mk ?_ | refine nk_p ?_ | refine gdT_i ?_ | refine gdT_ft ?_ | refine gdT_tf ?_ | refine gdT_u ?_ | refine gd_u ?_ | refine gd_ft ?_ | refine gd_tf ?_ | refine gd_i ?_ | refine pk_t ?_ | refine pk_f ?_ | refine br_t ?_ | refine br_f ?_ | refine sp_boxa hs fun g w hs => ?_))
   | (with_reducible ((first | apply st_bin | apply st_ext | apply st_len | apply st_un | apply st_conv | apply st_mki | apply st_fld | apply st_cap | apply st_max | apply st_min | apply st_ixv | apply st_mkf); intro k' hk; simp [go_sem, thenR_ok, bin]; refine hk _ _ ?_; clear hk k'))
   | ((with_reducible (first | apply tk_bin | apply tk_ext | apply tk_len | apply tk_un)); (· intro w; simp [go_sem, bin]; rfl))
   | ((with_reducible apply sp_newr hs); (· kernel_rfl); intro g w hs))
  exact ⟨_, _, rfl, hs⟩
theorem zzVali : zeroT Tryz.prog T.api_Validator (valiC (str []) (u8s zero32) (.int .i64 0)) := zeroT_of (by kernel_rfl)
theorem isthmusref11_ReadSet (hs : Sep b w L) (hm : Ins L (rdvF cs s).it) : C Tryz.prog N.isthmusref11_ReadSet #[.agg cs.toArray] w fun r w' => ∃ ds sv, r = .tuple #[.agg ds.toArray, sv] ∧ Sep b w' ((rdvF ds (gSet s).1).it :: (listF valiF 34 sv (gSet s).2).it :: L) := by
  have hc := hs.ok rdvF_ok hm
  refine C.isthmusref11_ReadSet ?_
  unfold F.isthmusref11_ReadSet
  replace hs := hs.fact (f := rdvF cs s) (hs.get hm)
  refine sp_boxa hs fun g1 w hs => ?_
  refine sp_newr hs (by kernel_rfl) fun g2 w hs => ?_
  repeat with_reducible refine mv.mk ?_
  refine rv_count hs (by first | ((repeat (first | with_reducible exact Has.hd | with_reducible apply Has.tl)); done) | (repeat (first | exact Has.hd | with_reducible apply Has.tl))) (by repeat (first | with_reducible exact Ins.hd | with_reducible apply Ins.tl)) (by decide) fun w ds hs => ?_
  repeat with_reducible refine mv.mk ?_
  have hmst := rC_most (most := 32) (s := s)
  replace hs := hs.grow0 valiF T.api_Validator 34
  unfold gSet
  generalize hsd : rC 32 s = d at *
  refine lp_by (fun vs w' => ∃ (i : Nat) (sv y : Value) (ds : List Value), vs = [sv, .int .i64 i, y] ∧ i ≤ d.2 ∧ Sep b w' (blkI g1 RT ds :: (rdvF ds (gList gVal i d.1).1).it :: growI valiF T.api_Validator 34 sv (gList gVal i d.1).2 :: resI Tryz.prog g2 RT :: L))
    (fun vs _ => match vs with | [_, .int _ m, _] => d.2 - m.toNat | _ => 0) ⟨0, _, _, _, rfl, Nat.zero_le _, hs.sbl (by repeat (first | with_reducible exact Sbl.all | with_reducible exact Sbl.nil | refine Sbl.cons (by first | ((repeat (first | with_reducible exact Has.hd | with_reducible apply Has.tl)); done) | (repeat (first | exact Has.hd | with_reducible apply Has.tl))) ?_ | refine Sbl.drop ?_))⟩ ?_
  clear hs
  rintro x w ⟨i, sv, y, ds, hx, hi, hs⟩
  simp only [List.cons.injEq, and_true] at hx
  simp only [hx.1, hx.2.1]
  repeat (first
   | (with_reducible (first | refine st_lens ?_ | refine st_eqls ?_ | refine st_nels ?_ | refine tk_eqls ?_ | refine tk_nels ?_ | refine mv.mk ?_ | refine nk_p ?_ | refine gdT_i ?_ | refine gdT_ft ?_ | refine gdT_tf ?_ | refine gdT_u ?_ | refine gd_u ?_ | refine gd_ft ?_ | refine gd_tf ?_ | refine gd_i ?_ | refine pk_t ?_ | refine pk_f ?_ | refine br_t ?_ | refine br_f ?_ | refine sp_boxa hs fun g w hs => ?_))
   | (with_reducible ((first | apply st_bin | apply st_ext | apply st_len | apply st_un | apply st_conv | apply st_mki | apply st_fld | apply st_cap | apply st_max | apply st_min | apply st_ixv | apply st_mkf); intro k' hk; simp [go_sem, thenR_ok, bin]; refine hk _ _ ?_; clear hk k'))
   | ((with_reducible (first | apply tk_bin | apply tk_ext | apply tk_len | apply tk_un)); (· intro w; simp [go_sem, bin]; rfl))
   | ((with_reducible apply sp_newr hs); (· kernel_rfl); intro g w hs))
  refine br_split (fun hb => ?_) (fun hb => ?_)
  · have hi' : i < d.2 := by have := of_decide_eq_true hb; omega
    refine sp_zlit (n := 34) zzVali (by kernel_rfl) ?_
    refine sp_newr hs (by kernel_rfl) fun g5 w hs => ?_
    refine sp_setr hs (by first | ((repeat (first | with_reducible exact Has.hd | with_reducible apply Has.tl)); done) | (repeat (first | exact Has.hd | with_reducible apply Has.tl))) (by kernel_rfl) (valiC_len z32) (valiC_one rfl (u8s_one _) rfl) fun w hs => ?_
    repeat with_reducible refine mv.mk ?_
    refine rv_bytes hs (by first | ((repeat (first | with_reducible exact Has.hd | with_reducible apply Has.tl)); done) | (repeat (first | exact Has.hd | with_reducible apply Has.tl))) (by repeat (first | with_reducible exact Ins.hd | with_reducible apply Ins.tl)) (by decide) fun w ds v hs => ?_
    repeat with_reducible refine mv.mk ?_
    refine sp_text hs (l := (rB 64 _).2) (by repeat (first | with_reducible exact Rds.sl | with_reducible exact Rds.byt | with_reducible exact Rds.row | with_reducible apply Rds.tl)) ?_
    refine vali.s0 hs (by first | ((repeat (first | with_reducible exact Has.hd | with_reducible apply Has.tl)); done) | (repeat (first | exact Has.hd | with_reducible apply Has.tl))) (by first | exact z32 | exact u8s_len rH_len | assumption) ⟨rfl, rfl⟩ fun w hs => ?_
    refine rv_hash hs (by first | ((repeat (first | with_reducible exact Has.hd | with_reducible apply Has.tl)); done) | (repeat (first | exact Has.hd | with_reducible apply Has.tl))) (by repeat (first | with_reducible exact Ins.hd | with_reducible apply Ins.tl)) fun w ds hs => ?_
    refine vali.s1 hs (by first | ((repeat (first | with_reducible exact Has.hd | with_reducible apply Has.tl)); done) | (repeat (first | exact Has.hd | with_reducible apply Has.tl))) (by first | exact z32 | exact u8s_len rH_len | assumption) (u8s_len rH_len) (u8s_one _) fun w hs => ?_
    refine rv_int hs (by first | ((repeat (first | with_reducible exact Has.hd | with_reducible apply Has.tl)); done) | (repeat (first | exact Has.hd | with_reducible apply Has.tl))) (by repeat (first | with_reducible exact Ins.hd | with_reducible apply Ins.tl)) fun w ds hs => ?_
    refine vali.s2 hs (by first | ((repeat (first | with_reducible exact Has.hd | with_reducible apply Has.tl)); done) | (repeat (first | exact Has.hd | with_reducible apply Has.tl))) (by first | exact z32 | exact u8s_len rH_len | assumption) ⟨rfl, rfl⟩ fun w hs => ?_
    repeat with_reducible refine mv.mk ?_
    refine sp_loadall hs (by first | ((repeat (first | with_reducible exact Has.hd | with_reducible apply Has.tl)); done) | (repeat (first | exact Has.hd | with_reducible apply Has.tl))) (by kernel_rfl) (valiC_len (u8s_len rH_len)) ?_
    refine blk_fact (F := valiF) (x := (gVal (gList gVal i d.1).1).2) T.api_Validator hs (by first | ((repeat (first | with_reducible exact Has.hd | with_reducible apply Has.tl)); done) | (repeat (first | exact Has.hd | with_reducible apply Has.tl))) ?_ fun hs => ?_
    · exact ⟨rfl, gVal_ok⟩
    have hx2 := hs.ok valiF_ok (x := (gVal (gList gVal i d.1).1).2) .hd
    refine sp_lita hs tVals hx2.1 (by decide) fun v w hs => ?_
    have hll := gList_len gVal i d.1
    refine sp_push hs (by first | ((repeat (first | with_reducible exact Has.hd | with_reducible apply Has.tl)); done) | (repeat (first | exact Has.hd | with_reducible apply Has.tl))) tVals (by repeat (first | with_reducible exact Rds.sl | with_reducible exact Rds.byt | with_reducible exact Rds.row | with_reducible apply Rds.tl)) (by repeat (first | with_reducible exact Ins.hd | with_reducible apply Ins.tl)) hx2.2 (by rw [hll]; omega) (by rw [hll]; omega) fun v w hs => ?_
    repeat (first
     | (with_reducible (first | refine st_lens ?_ | refine st_eqls ?_ | refine st_nels ?_ | refine tk_eqls ?_ | refine tk_nels ?_ | refine mv.mk ?_ | refine nk_p ?_ | refine gdT_i ?_ | refine gdT_ft ?_ | refine gdT_tf ?_ | refine gdT_u ?_ | refine gd_u ?_ | refine gd_ft ?_ | refine gd_tf ?_ | refine gd_i ?_ | refine pk_t ?_ | refine pk_f ?_ | refine br_t ?_ | refine br_f ?_ | refine sp_boxa hs fun g w hs => ?_))
     | (with_reducible ((first | apply st_bin | apply st_ext | apply st_len | apply st_un | apply st_conv | apply st_mki | apply st_fld | apply st_cap | apply st_max | apply st_min | apply st_ixv | apply st_mkf); intro k' hk; simp [go_sem, thenR_ok, bin]; refine hk _ _ ?_; clear hk k'))
     | ((with_reducible (first | apply tk_bin | apply tk_ext | apply tk_len | apply tk_un)); (· intro w; simp [go_sem, bin]; rfl))
     | ((with_reducible apply sp_newr hs); (· kernel_rfl); intro g w hs))
    rw [i64_succ (by omega)]
    exact ⟨⟨i + 1, _, _, _, rfl, hi', hs.sbl (by repeat (first | with_reducible exact Sbl.all | with_reducible exact Sbl.nil | refine Sbl.cons (by first | ((repeat (first | with_reducible exact Has.hd | with_reducible apply Has.tl)); done) | (repeat (first | exact Has.hd | with_reducible apply Has.tl))) ?_ | refine Sbl.drop ?_))⟩, by simp; omega⟩
  · obtain rfl : i = d.2 := by have := of_decide_eq_false hb; omega
    replace hs := hs.growF (by first | ((repeat (first | with_reducible exact Has.hd | with_reducible apply Has.tl)); done) | (repeat (first | exact Has.hd | with_reducible apply Has.tl)))
    have hdd := hs.ok rdvF_ok (cs := ds) (by repeat (first | with_reducible exact Ins.hd | with_reducible apply Ins.tl))
    refine sp_loadall hs (by first | ((repeat (first | with_reducible exact Has.hd | with_reducible apply Has.tl)); done) | (repeat (first | exact Has.hd | with_reducible apply Has.tl))) (by kernel_rfl) hdd.1 ?_
    repeat with_reducible refine mv.mk ?_
    refine sp_setr hs (by first | ((repeat (first | with_reducible exact Has.hd | with_reducible apply Has.tl)); done) | (repeat (first | exact Has.hd | with_reducible apply Has.tl))) (by kernel_rfl) hdd.1 hdd.2 fun w hs => ?_
    repeat with_reducible refine mv.mk ?_
    refine sp_rc hs (by first | ((repeat (first | with_reducible exact Has.hd | with_reducible apply Has.tl)); done) | (repeat (first | exact Has.hd | with_reducible apply Has.tl))) (by kernel_rfl) hdd.1 ?_
    exact ⟨_, _, rfl, hs.sbl (by repeat (first | with_reducible exact Sbl.all | with_reducible exact Sbl.nil | refine Sbl.cons (by first | ((repeat (first | with_reducible exact Has.hd | with_reducible apply Has.tl)); done) | (repeat (first | exact Has.hd | with_reducible apply Has.tl))) ?_ | refine Sbl.drop ?_))⟩
theorem isthmusref11_DecodeSet (hs : Sep b w L) (hm : Ins L (byF v l).it) (hl : l.length ≤ 2147483648) : C Tryz.prog N.isthmusref11_DecodeSet #[v] w fun r w' => ∃ sv, r = .tuple #[sv, .int .i64 (decN gSet [] l).2] ∧ Sep b w' ((listF valiF 34 sv (decN gSet [] l).1).it :: L) := by
  refine C.isthmusref11_DecodeSet ?_
  unfold F.isthmusref11_DecodeSet
  repeat with_reducible refine mv.mk ?_
  refine lit_rd hs hm hl fun hs => ?_
  refine cl (isthmusref11_ReadSet hs (by repeat (first | with_reducible exact Ins.hd | with_reducible apply Ins.tl))) ?_; rintro _ w ⟨ds, sv, rfl, hs⟩
  have hd := hs.ok rdvF_ok (cs := ds) (by repeat (first | with_reducible exact Ins.hd | with_reducible apply Ins.tl))
  repeat (first
   | (with_reducible (first | refine st_lens ?_ | refine st_eqls ?_ | refine st_nels ?_ | refine tk_eqls ?_ | refine tk_nels ?_ | refine mv.mk ?_ | refine nk_p ?_ | refine gdT_i ?_ | refine gdT_ft ?_ | refine gdT_tf ?_ | refine gdT_u ?_ | refine gd_u ?_ | refine gd_ft ?_ | refine gd_tf ?_ | refine gd_i ?_ | refine pk_t ?_ | refine pk_f ?_ | refine br_t ?_ | refine br_f ?_ | refine sp_boxa hs fun g w hs => ?_))
   | (with_reducible ((first | apply st_bin | apply st_ext | apply st_len | apply st_un | apply st_conv | apply st_mki | apply st_fld | apply st_cap | apply st_max | apply st_min | apply st_ixv | apply st_mkf); intro k' hk; simp [go_sem, thenR_ok, bin]; refine hk _ _ ?_; clear hk k'))
   | ((with_reducible (first | apply tk_bin | apply tk_ext | apply tk_len | apply tk_un)); (· intro w; simp [go_sem, bin]; rfl))
   | ((with_reducible apply sp_newr hs); (· kernel_rfl); intro g w hs))
  refine sp_setr hs (by first | ((repeat (first | with_reducible exact Has.hd | with_reducible apply Has.tl)); done) | (repeat (first | exact Has.hd | with_reducible apply Has.tl))) (by kernel_rfl) hd.1 hd.2 fun w hs => ?_
  repeat with_reducible refine mv.mk ?_
  refine sp_loadall hs (by first | ((repeat (first | with_reducible exact Has.hd | with_reducible apply Has.tl)); done) | (repeat (first | exact Has.hd | with_reducible apply Has.tl))) (by kernel_rfl) hd.1 ?_
  refine cl (sp_vDone hs (by repeat (first | with_reducible exact Ins.hd | with_reducible apply Ins.tl))) ?_
  rintro r w ⟨e, rfl, he, hs⟩
  by_cases hd : (gSet (some l)).1 = some []
  · rw [he.2 hd, decN_ok hd]
    repeat (first
     | (with_reducible (first | refine st_lens ?_ | refine st_eqls ?_ | refine st_nels ?_ | refine tk_eqls ?_ | refine tk_nels ?_ | refine mv.mk ?_ | refine nk_p ?_ | refine gdT_i ?_ | refine gdT_ft ?_ | refine gdT_tf ?_ | refine gdT_u ?_ | refine gd_u ?_ | refine gd_ft ?_ | refine gd_tf ?_ | refine gd_i ?_ | refine pk_t ?_ | refine pk_f ?_ | refine br_t ?_ | refine br_f ?_ | refine sp_boxa hs fun g w hs => ?_))
     | (with_reducible ((first | apply st_bin | apply st_ext | apply st_len | apply st_un | apply st_conv | apply st_mki | apply st_fld | apply st_cap | apply st_max | apply st_min | apply st_ixv | apply st_mkf); intro k' hk; simp [go_sem, thenR_ok, bin]; refine hk _ _ ?_; clear hk k'))
     | ((with_reducible (first | apply tk_bin | apply tk_ext | apply tk_len | apply tk_un)); (· intro w; simp [go_sem, bin]; rfl))
     | ((with_reducible apply sp_newr hs); (· kernel_rfl); intro g w hs))
    exact ⟨_, rfl, hs.sbl (by repeat (first | with_reducible exact Sbl.all | with_reducible exact Sbl.nil | refine Sbl.cons (by first | ((repeat (first | with_reducible exact Has.hd | with_reducible apply Has.tl)); done) | (repeat (first | exact Has.hd | with_reducible apply Has.tl))) ?_ | refine Sbl.drop ?_))⟩
  · have he' : e ≠ 0 := fun e0 => hd (he.1 e0)
    rw [decN_no hd]
    repeat (first
     | (with_reducible (first | refine st_lens ?_ | refine st_eqls ?_ | refine st_nels ?_ | refine tk_eqls ?_ | refine tk_nels ?_ | refine mv.mk ?_ | refine nk_p ?_ | refine gdT_i ?_ | refine gdT_ft ?_ | refine gdT_tf ?_ | refine gdT_u ?_ | refine gd_u ?_ | refine gd_ft ?_ | refine gd_tf ?_ | refine gd_i ?_ | refine pk_t ?_ | refine pk_f ?_ | refine br_t ?_ | refine br_f ?_ | refine sp_boxa hs fun g w hs => ?_))
     | (with_reducible ((first | apply st_bin | apply st_ext | apply st_len | apply st_un | apply st_conv | apply st_mki | apply st_fld | apply st_cap | apply st_max | apply st_min | apply st_ixv | apply st_mkf); intro k' hk; simp [go_sem, thenR_ok, bin]; refine hk _ _ ?_; clear hk k'))
     | ((with_reducible (first | apply tk_bin | apply tk_ext | apply tk_len | apply tk_un)); (· intro w; simp [go_sem, bin]; rfl))
     | ((with_reducible apply sp_newr hs); (· kernel_rfl); intro g w hs))
    rw [show (e != 0) = true by simp [he']]
    refine br_t ?_
    repeat with_reducible refine mv.mk ?_
    exact ⟨_, rfl, (hs.nilF valiF 34).sbl (by repeat (first | with_reducible exact Sbl.all | with_reducible exact Sbl.nil | refine Sbl.cons (by first | ((repeat (first | with_reducible exact Has.hd | with_reducible apply Has.tl)); done) | (repeat (first | exact Has.hd | with_reducible apply Has.tl))) ?_ | refine Sbl.drop ?_))⟩
end
end Go.Proofs.YtlfelmikcdmkhaaGreatDoor
