/- Blocks: sums of transactions and headers, in the program and in the document. -/
import Derived.Test.YtlfelmikcdmkhaaGreatDoorS2
set_option linter.unusedVariables false
set_option linter.unusedSimpArgs false
set_option linter.unusedSectionVars false
namespace Go.Proofs.YtlfelmikcdmkhaaGreatDoor
open Go Go.Isk Go.RowKit
set_option maxRecDepth 20000
def txsHashB (l : List Bytes) : Bytes := rootB (l.map leafB)
def hdrHashB (h : Header) : Bytes := shaB (8 :: encHeader h)
section
variable {b : Base} {w : World} {L R : List It} {g : Nat} {v sv : Value} {cs : List Value} {s : Bytes} {l : List Bytes}
theorem txsHashB_len (l : List Bytes) : (txsHashB l).length = 32 := rootB_len _ rfl fun x hx => by
  obtain ⟨v, _, rfl⟩ := List.mem_map.1 hx
  exact leafB_len _
theorem hdrHashB_len (h : Header) : (hdrHashB h).length = 32 := shaB_len _
theorem types_TxsHash (hs : Sep b w L) (hR : Ins L rndF.it) (hm : Ins L (listF bytesF 1 sv l).it) (hn : l.length ≤ 1073741824) (hnm : ∀ t ∈ l, t.length ≤ 1073741824) :
    C Tryz.prog N.types_TxsHash #[sv] w fun r w' => r = .agg (u8s (txsHashB l)).toArray ∧ Sep b w' L := by
  obtain ⟨A, c, hsv⟩ := hs.lst_len hm.lst
  have hlen : ∀ w', (Builtin.len_ #[T.sl_sl_uint8] T.int #[sv]).run Tryz.prog w' = .ok (.int .i64 l.length) w' := fun w' => by rw [hsv]; simp [go_sem]
  refine C.types_TxsHash ?_
  unfold F.types_TxsHash
  refine sp_newr hs (by kernel_rfl) fun g2 w hs => ?_
  repeat with_reducible refine mv.mk ?_
  refine st_of (hlen w) ?_
  repeat with_reducible refine mv.mk ?_
  replace hs := hs.grow0 hshF T.api_Hash 32
  refine lp_by (fun us w' => ∃ (i : Nat) (v y : Value), us = [v, y, .int .i64 i] ∧ i ≤ l.length ∧ Sep b w' (growI hshF T.api_Hash 32 v ((l.take i).map leafB) :: resI Tryz.prog g2 T.api_Hash :: L)) (fun us _ => match us with | [_, _, .int _ m] => l.length - m.toNat | _ => 0) ⟨0, _, _, rfl, Nat.zero_le _, hs⟩ ?_
  clear hs
  rintro x w ⟨i, v, y, hx, hi, hs⟩
  simp only [List.cons.injEq, and_true] at hx
  simp only [hx.1, hx.2.2]
  repeat with_reducible refine mv.mk ?_
  repeat (first
   | (with_reducible (first | refine st_lens ?_ | refine st_eqls ?_ | refine st_nels ?_ | refine tk_eqls ?_ | refine tk_nels ?_ | refine mv.mk ?_ | refine nk_p ?_ | refine gdT_i ?_ | refine gdT_ft ?_ | refine gdT_tf ?_ | refine gdT_u ?_ | refine gd_u ?_ | refine gd_ft ?_ | refine gd_tf ?_ | refine gd_i ?_ | refine pk_t ?_ | refine pk_f ?_ | refine br_t ?_ | refine br_f ?_ | refine sp_boxa hs fun g w hs => ?_))
   | (with_reducible ((first | apply st_bin | apply st_ext | apply st_len | apply st_un | apply st_conv | apply st_mki | apply st_fld | apply st_cap | apply st_max | apply st_min | apply st_ixv | apply st_mkf); intro k' hk; simp [go_sem, thenR_ok, bin]; refine hk _ _ ?_; clear hk k'))
   | ((with_reducible (first | apply tk_bin | apply tk_ext | apply tk_len | apply tk_un)); (· intro w; simp [go_sem, bin]; rfl))
   | ((with_reducible apply sp_newr hs); (· kernel_rfl); intro g w hs))
  refine br_split (fun hq => ?_) (fun hq => ?_)
  · have hi' : i < l.length := by have := of_decide_eq_true hq; omega
    repeat with_reducible refine mv.mk ?_
    refine sp_el1 hs (F := bytesF) (ls := l) (.tl (.tl hm.lst)) tTxs (by kernel_rfl) i rfl hi' fun x hs => ?_
    replace hs := hs.ofBytes (v := x) (t := l[i]) .hd
    have hnl := hnm _ (List.getElem_mem hi')
    repeat with_reducible refine mv.mk ?_
    refine cl (sha_Leaf hs (.tl (.tl (.tl (.tl hR)))) .hd (by omega)) ?_
    rintro _ w ⟨rfl, hs⟩
    replace hs := Sep.hash hs (leafB_len l[i])
    refine sp_lita hs tHashes (by rw [u8s_length, leafB_len]) (by decide) fun u w hs => ?_
    have hll : ((l.take i).map leafB).length = i := by rw [List.length_map, List.length_take]; omega
    refine sp_push (a := leafB l[i]) hs (by first | ((repeat (first | with_reducible exact Has.hd | with_reducible apply Has.tl)); done) | (repeat (first | exact Has.hd | with_reducible apply Has.tl))) tHashes .sl (by repeat (first | with_reducible exact Ins.hd | with_reducible apply Ins.tl)) (u8s_one _) (by rw [hll]; omega) (by rw [hll]; omega) fun v' w hs => ?_
    rw [show ((l.take i).map leafB) ++ [leafB l[i]] = (l.take (i + 1)).map leafB by rw [List.take_succ_eq_append_getElem hi', List.map_append]; rfl] at hs
    repeat (first
     | (with_reducible (first | refine st_lens ?_ | refine st_eqls ?_ | refine st_nels ?_ | refine tk_eqls ?_ | refine tk_nels ?_ | refine mv.mk ?_ | refine nk_p ?_ | refine gdT_i ?_ | refine gdT_ft ?_ | refine gdT_tf ?_ | refine gdT_u ?_ | refine gd_u ?_ | refine gd_ft ?_ | refine gd_tf ?_ | refine gd_i ?_ | refine pk_t ?_ | refine pk_f ?_ | refine br_t ?_ | refine br_f ?_ | refine sp_boxa hs fun g w hs => ?_))
     | (with_reducible ((first | apply st_bin | apply st_ext | apply st_len | apply st_un | apply st_conv | apply st_mki | apply st_fld | apply st_cap | apply st_max | apply st_min | apply st_ixv | apply st_mkf); intro k' hk; simp [go_sem, thenR_ok, bin]; refine hk _ _ ?_; clear hk k'))
     | ((with_reducible (first | apply tk_bin | apply tk_ext | apply tk_len | apply tk_un)); (· intro w; simp [go_sem, bin]; rfl))
     | ((with_reducible apply sp_newr hs); (· kernel_rfl); intro g w hs))
    rw [i64_succ (by omega)]
    exact ⟨⟨i + 1, _, _, rfl, hi', hs.sbl (by repeat (first | with_reducible exact Sbl.all | with_reducible exact Sbl.nil | refine Sbl.cons (by first | ((repeat (first | with_reducible exact Has.hd | with_reducible apply Has.tl)); done) | (repeat (first | exact Has.hd | with_reducible apply Has.tl))) ?_ | refine Sbl.drop ?_))⟩, by simp; omega⟩
  obtain rfl : i = l.length := by have := of_decide_eq_false hq; omega
  rw [List.take_length] at hs
  replace hs := hs.growF .hd
  repeat with_reducible refine mv.mk ?_
  refine cl (sha_Root _ rfl hs (.tl (.tl hR)) .hd (by rw [List.length_map]; omega)) ?_
  rintro _ w ⟨rfl, hs⟩
  refine sp_ret hs (.tl .hd) (by kernel_rfl) ((u8s_length _).trans (txsHashB_len l)) (u8s_one _) fun w hs => ?_
  exact ⟨rfl, hs.drop .hd⟩
theorem isthmusref11_TxsHash (hs : Sep b w L) (hm : Ins L (listF bytesF 1 sv l).it) (hn : l.length ≤ 1073741824) (hnm : ∀ t ∈ l, t.length ≤ 1073741824) :
    C Tryz.prog N.isthmusref11_TxsHash #[sv] w fun r w' => r = .agg (u8s (txsHashB l)).toArray ∧ Sep b w' L := by
  obtain ⟨A, c, hsv⟩ := hs.lst_len hm.lst
  have hlen : ∀ w', (Builtin.len_ #[T.sl_sl_uint8] T.int #[sv]).run Tryz.prog w' = .ok (.int .i64 l.length) w' := fun w' => by rw [hsv]; simp [go_sem]
  refine C.isthmusref11_TxsHash ?_
  unfold F.isthmusref11_TxsHash
  refine sp_newr hs (by kernel_rfl) fun g2 w hs => ?_
  repeat with_reducible refine mv.mk ?_
  replace hs := hs.grow0 hshF T.api_Hash 32
  refine lp_by (fun us w' => ∃ (i : Nat) (v y : Value), us = [v, .int .i64 i] ∧ i ≤ l.length ∧ Sep b w' (growI hshF T.api_Hash 32 v ((l.take i).map leafB) :: resI Tryz.prog g2 T.api_Hash :: L)) (fun us _ => match us with | [_, .int _ m] => l.length - m.toNat | _ => 0) ⟨0, _, .int .i64 0, rfl, Nat.zero_le _, hs⟩ ?_
  clear hs
  rintro x w ⟨i, v, y, hx, hi, hs⟩
  simp only [List.cons.injEq, and_true] at hx
  simp only [hx.1, hx.2]
  repeat with_reducible refine mv.mk ?_
  refine st_of (hlen w) ?_
  repeat (first
   | (with_reducible (first | refine st_lens ?_ | refine st_eqls ?_ | refine st_nels ?_ | refine tk_eqls ?_ | refine tk_nels ?_ | refine mv.mk ?_ | refine nk_p ?_ | refine gdT_i ?_ | refine gdT_ft ?_ | refine gdT_tf ?_ | refine gdT_u ?_ | refine gd_u ?_ | refine gd_ft ?_ | refine gd_tf ?_ | refine gd_i ?_ | refine pk_t ?_ | refine pk_f ?_ | refine br_t ?_ | refine br_f ?_ | refine sp_boxa hs fun g w hs => ?_))
   | (with_reducible ((first | apply st_bin | apply st_ext | apply st_len | apply st_un | apply st_conv | apply st_mki | apply st_fld | apply st_cap | apply st_max | apply st_min | apply st_ixv | apply st_mkf); intro k' hk; simp [go_sem, thenR_ok, bin]; refine hk _ _ ?_; clear hk k'))
   | ((with_reducible (first | apply tk_bin | apply tk_ext | apply tk_len | apply tk_un)); (· intro w; simp [go_sem, bin]; rfl))
   | ((with_reducible apply sp_newr hs); (· kernel_rfl); intro g w hs))
  refine br_split (fun hq => ?_) (fun hq => ?_)
  · have hi' : i < l.length := by have := of_decide_eq_true hq; omega
    repeat with_reducible refine mv.mk ?_
    refine sp_el1 hs (F := bytesF) (ls := l) (.tl (.tl hm.lst)) tTxs (by kernel_rfl) i rfl hi' fun x hs => ?_
    replace hs := hs.ofBytes (v := x) (t := l[i]) .hd
    have hnl := hnm _ (List.getElem_mem hi')
    repeat with_reducible refine mv.mk ?_
    refine cl (isthmusref01_Leaf hs .hd (by omega)) ?_
    rintro _ w ⟨rfl, hs⟩
    replace hs := Sep.hash hs (leafB_len l[i])
    refine sp_lita hs tHashes (by rw [u8s_length, leafB_len]) (by decide) fun u w hs => ?_
    have hll : ((l.take i).map leafB).length = i := by rw [List.length_map, List.length_take]; omega
    refine sp_push (a := leafB l[i]) hs (by first | ((repeat (first | with_reducible exact Has.hd | with_reducible apply Has.tl)); done) | (repeat (first | exact Has.hd | with_reducible apply Has.tl))) tHashes .sl (by repeat (first | with_reducible exact Ins.hd | with_reducible apply Ins.tl)) (u8s_one _) (by rw [hll]; omega) (by rw [hll]; omega) fun v' w hs => ?_
    rw [show ((l.take i).map leafB) ++ [leafB l[i]] = (l.take (i + 1)).map leafB by rw [List.take_succ_eq_append_getElem hi', List.map_append]; rfl] at hs
    repeat (first
     | (with_reducible (first | refine st_lens ?_ | refine st_eqls ?_ | refine st_nels ?_ | refine tk_eqls ?_ | refine tk_nels ?_ | refine mv.mk ?_ | refine nk_p ?_ | refine gdT_i ?_ | refine gdT_ft ?_ | refine gdT_tf ?_ | refine gdT_u ?_ | refine gd_u ?_ | refine gd_ft ?_ | refine gd_tf ?_ | refine gd_i ?_ | refine pk_t ?_ | refine pk_f ?_ | refine br_t ?_ | refine br_f ?_ | refine sp_boxa hs fun g w hs => ?_))
     | (with_reducible ((first | apply st_bin | apply st_ext | apply st_len | apply st_un | apply st_conv | apply st_mki | apply st_fld | apply st_cap | apply st_max | apply st_min | apply st_ixv | apply st_mkf); intro k' hk; simp [go_sem, thenR_ok, bin]; refine hk _ _ ?_; clear hk k'))
     | ((with_reducible (first | apply tk_bin | apply tk_ext | apply tk_len | apply tk_un)); (· intro w; simp [go_sem, bin]; rfl))
     | ((with_reducible apply sp_newr hs); (· kernel_rfl); intro g w hs))
    rw [i64_succ (by omega)]
    exact ⟨⟨i + 1, _, .int .i64 0, rfl, hi', hs.sbl (by repeat (first | with_reducible exact Sbl.all | with_reducible exact Sbl.nil | refine Sbl.cons (by first | ((repeat (first | with_reducible exact Has.hd | with_reducible apply Has.tl)); done) | (repeat (first | exact Has.hd | with_reducible apply Has.tl))) ?_ | refine Sbl.drop ?_))⟩, by simp; omega⟩
  obtain rfl : i = l.length := by have := of_decide_eq_false hq; omega
  rw [List.take_length] at hs
  replace hs := hs.growF .hd
  repeat with_reducible refine mv.mk ?_
  refine cl (isthmusref01_Root _ rfl hs .hd (by rw [List.length_map]; omega)) ?_
  rintro _ w ⟨rfl, hs⟩
  refine sp_ret hs (.tl .hd) (by kernel_rfl) ((u8s_length _).trans (txsHashB_len l)) (u8s_one _) fun w hs => ?_
  exact ⟨rfl, hs.drop .hd⟩
theorem types_HeaderHash {h : Header} (hs : Sep b w L) (hR : Ins L rndF.it) (hm : Ins L (headF cs h).it) (hl : (encHeader h).length + 30 ≤ 2147483648) :
    C Tryz.prog N.types_HeaderHash #[.agg cs.toArray] w fun r w' => r = .agg (u8s (hdrHashB h)).toArray ∧ Sep b w' L := by
  have hv : HeadIs cs h := hs.get hm
  refine C.types_HeaderHash ?_
  unfold F.types_HeaderHash
  refine sp_boxa hs fun g1 w hs => ?_
  refine sp_newr hs (by kernel_rfl) fun g2 w hs => ?_
  refine sp_row1 (c := 8) hs fun u w hs => ?_
  refine sp_loadall hs (.tl (.tl .hd)) (by kernel_rfl) hv.len ?_
  refine cl (types_EncodeHeader hv (by omega)) ?_
  rintro r w' hN
  replace hs := newB_sep hs hN
  refine sp_appY (m := encHeader h) hs (.tl .hd) .byt (by simp only [List.length_cons, List.length_nil]; omega) fun u w hs => ?_
  replace hs := hs.rowB .hd
  refine cl (sha_Sum hs (.tl (.tl (.tl (.tl hR)))) .hd (by simp only [List.length_append, List.length_cons, List.length_nil]; omega)) ?_
  rintro _ w ⟨rfl, hs⟩
  refine sp_ret hs (.tl (.tl .hd)) (by kernel_rfl) (by rw [u8s_length, shaB_len]) (u8s_one _) fun w hs => ?_
  exact ⟨rfl, hs.sbl (.drop (.drop (.drop .all)))⟩
theorem isthmusref11_HeaderHash {h : Header} (hs : Sep b w L) (hm : Ins L (headF cs h).it) (hl : (encHeader h).length + 30 ≤ 2147483648) :
    C Tryz.prog N.isthmusref11_HeaderHash #[.agg cs.toArray] w fun r w' => r = .agg (u8s (hdrHashB h)).toArray ∧ Sep b w' L := by
  have hv : HeadIs cs h := hs.get hm
  refine C.isthmusref11_HeaderHash ?_
  unfold F.isthmusref11_HeaderHash
  refine sp_boxa hs fun g1 w hs => ?_
  refine sp_newr hs (by kernel_rfl) fun g2 w hs => ?_
  refine sp_row1 (c := 8) hs fun u w hs => ?_
  refine sp_loadall hs (.tl (.tl .hd)) (by kernel_rfl) hv.len ?_
  refine cl (isthmusref11_Header (l := [8]) (hs.reads .row) hv (by simp; omega)) ?_
  rintro r w' hN
  replace hs := newB_sep hs hN
  refine cl (isthmusref01_Sum hs .hd (by simp only [List.length_append, List.length_cons, List.length_nil]; omega)) ?_
  rintro _ w ⟨rfl, hs⟩
  refine sp_ret hs (.tl (.tl .hd)) (by kernel_rfl) (by rw [u8s_length, shaB_len]) (u8s_one _) fun w hs => ?_
  exact ⟨rfl, hs.sbl (.drop (.drop (.drop .all)))⟩
def longB (t : Bytes) : Bool := decide (65536 < t.length)
theorem types_CheckBlock_1 {t : Bytes} (hs : Sep b w L) (hm : Ins L (byF v t).it) : C Tryz.prog N.types_CheckBlock_1 #[v] w fun r w' => r = .bool (longB t) ∧ Sep b w' L := by
  obtain ⟨A, c, rfl⟩ := bytesF_slice hs hm
  refine C.types_CheckBlock_1 ?_
  unfold F.types_CheckBlock_1
  repeat (first
   | (with_reducible (first | refine st_lens ?_ | refine st_eqls ?_ | refine st_nels ?_ | refine tk_eqls ?_ | refine tk_nels ?_ | refine mv.mk ?_ | refine nk_p ?_ | refine gdT_i ?_ | refine gdT_ft ?_ | refine gdT_tf ?_ | refine gdT_u ?_ | refine gd_u ?_ | refine gd_ft ?_ | refine gd_tf ?_ | refine gd_i ?_ | refine pk_t ?_ | refine pk_f ?_ | refine br_t ?_ | refine br_f ?_ | refine sp_boxa hs fun g w hs => ?_))
   | (with_reducible ((first | apply st_bin | apply st_ext | apply st_len | apply st_un | apply st_conv | apply st_mki | apply st_fld | apply st_cap | apply st_max | apply st_min | apply st_ixv | apply st_mkf); intro k' hk; simp [go_sem, thenR_ok, bin]; refine hk _ _ ?_; clear hk k'))
   | ((with_reducible (first | apply tk_bin | apply tk_ext | apply tk_len | apply tk_un)); (· intro w; simp [go_sem, bin]; rfl))
   | ((with_reducible apply sp_newr hs); (· kernel_rfl); intro g w hs))
  refine ⟨?_, hs⟩
  rw [longB]
  congr 1
  rw [Bool.eq_iff_iff]
  simp
  omega
theorem slices_ContainsFunc_texts (hs : Sep b w L) (hm : Ins L (listF bytesF 1 sv l).it) (hn : l.length ≤ 4611686018427387904) : C Tryz.prog N.slices_ContainsFunc_texts #[sv, .func (.func N.types_CheckBlock_1) #[] #[]] w fun r w' => r = .bool (l.any longB) ∧ Sep b w' L := by
  refine C.slices_ContainsFunc_texts ?_
  unfold F.slices_ContainsFunc_texts
  repeat with_reducible refine mv.mk ?_
  refine C.slices_IndexFunc_texts ?_
  show IdxBody Tryz.prog T.int T.sl_sl_uint8 T.sl_uint8 _ _ _ _
  refine idx_one (F := bytesF) (p := longB) (by_ := 24) ltT adT tTxs (by kernel_rfl) hs hm.lst hn ?_ ?_
  · intro w i hi x K hs hK
    replace hs := hs.ofBytes (v := x) (t := l[i]) .hd
    refine cv_f (by kernel_rfl) ?_
    refine cl (types_CheckBlock_1 hs .hd) ?_
    rintro _ w ⟨rfl, hs⟩
    exact hK w ((hs.drop .hd).drop .hd)
  · intro w hs
    repeat (first
     | (with_reducible (first | refine st_lens ?_ | refine st_eqls ?_ | refine st_nels ?_ | refine tk_eqls ?_ | refine tk_nels ?_ | refine mv.mk ?_ | refine nk_p ?_ | refine gdT_i ?_ | refine gdT_ft ?_ | refine gdT_tf ?_ | refine gdT_u ?_ | refine gd_u ?_ | refine gd_ft ?_ | refine gd_tf ?_ | refine gd_i ?_ | refine pk_t ?_ | refine pk_f ?_ | refine br_t ?_ | refine br_f ?_ | refine sp_boxa hs fun g w hs => ?_))
     | (with_reducible ((first | apply st_bin | apply st_ext | apply st_len | apply st_un | apply st_conv | apply st_mki | apply st_fld | apply st_cap | apply st_max | apply st_min | apply st_ixv | apply st_mkf); intro k' hk; simp [go_sem, thenR_ok, bin]; refine hk _ _ ?_; clear hk k'))
     | ((with_reducible (first | apply tk_bin | apply tk_ext | apply tk_len | apply tk_un)); (· intro w; simp [go_sem, bin]; rfl))
     | ((with_reducible apply sp_newr hs); (· kernel_rfl); intro g w hs))
    rw [idxOf_any]
    exact ⟨rfl, hs⟩
end
end Go.Proofs.YtlfelmikcdmkhaaGreatDoor
