/- Sets: their sums, whether they are sets, their power, in the program and in the document. -/
import Derived.Test.YtlfelmikcdmkhaaGreatDoorS1
import Derived.Test.YtlfelmikcdmkhaaGreatDoorL2
set_option linter.unusedVariables false
set_option linter.unusedSimpArgs false
set_option linter.unusedSectionVars false
namespace Go.Proofs.YtlfelmikcdmkhaaGreatDoor
open Go Go.Isk Go.RowKit
set_option maxRecDepth 20000
def setHashB (l : List Validator) : Bytes := rootB (l.map fun v => leafB (encValidator v))
section
variable {b : Base} {w : World} {L R : List It} {g : Nat} {v sv : Value} {cs : List Value} {s : Bytes} {l : List Validator}
theorem encVal_len {v : Validator} (h : v.ok) (hn : v.name.length ≤ 1073741824) : (encValidator v).length ≤ v.name.length + 100 := by
  have h1 := encB_len (l := v.name) (by omega)
  have h2 := encI_len h.power
  have h3 := h.key
  simp only [encValidator, List.length_append]
  omega
theorem leafB_len (x : Bytes) : (leafB x).length = 32 := shaB_len _
theorem types_SetHash (hs : Sep b w L) (hR : Ins L rndF.it) (hm : Ins L (listF valiF 34 sv l).it) (hn : l.length ≤ 1073741824) (hnm : ∀ v ∈ l, v.name.length ≤ 1073741824) :
    C Tryz.prog N.types_SetHash #[sv] w fun r w' => r = .agg (u8s (setHashB l)).toArray ∧ Sep b w' L := by
  obtain ⟨A, c, rfl⟩ := hs.lst_len hm.lst
  refine C.types_SetHash ?_
  unfold F.types_SetHash
  refine sp_newr hs (by kernel_rfl) fun g2 w hs => ?_
  repeat (first
   | (with_reducible (first | refine st_lens ?_ | refine st_eqls ?_ | refine st_nels ?_ | refine tk_eqls ?_ | refine tk_nels ?_ | refine mv.mk ?_ | refine nk_p ?_ | refine gdT_i ?_ | refine gdT_ft ?_ | refine gdT_tf ?_ | refine gdT_u ?_ | refine gd_u ?_ | refine gd_ft ?_ | refine gd_tf ?_ | refine gd_i ?_ | refine pk_t ?_ | refine pk_f ?_ | refine br_t ?_ | refine br_f ?_ | refine sp_boxa hs fun g w hs => ?_))
   | (with_reducible ((first | apply st_bin | apply st_ext | apply st_len | apply st_un | apply st_conv | apply st_mki | apply st_fld | apply st_cap | apply st_max | apply st_min | apply st_ixv | apply st_mkf); intro k' hk; simp [go_sem, thenR_ok, bin]; refine hk _ _ ?_; clear hk k'))
   | ((with_reducible (first | apply tk_bin | apply tk_ext | apply tk_len | apply tk_un)); (· intro w; simp [go_sem, bin]; rfl))
   | ((with_reducible apply sp_newr hs); (· kernel_rfl); intro g w hs))
  replace hs := hs.grow0 hshF T.api_Hash 32
  refine lp_by (fun us w' => ∃ (i : Nat) (v y : Value), us = [v, y, .int .i64 i] ∧ i ≤ l.length ∧ Sep b w' (growI hshF T.api_Hash 32 v ((l.take i).map fun v => leafB (encValidator v)) :: resI Tryz.prog g2 T.api_Hash :: L)) (fun us _ => match us with | [_, _, .int _ m] => l.length - m.toNat | _ => 0) ⟨0, _, _, rfl, Nat.zero_le _, hs⟩ ?_
  clear hs w
  rintro x w ⟨i, v, y, hx, hi, hs⟩
  simp only [List.cons.injEq, and_true] at hx
  simp only [hx.1, hx.2.2]
  clear hx
  repeat (first
   | (with_reducible (first | refine st_lens ?_ | refine st_eqls ?_ | refine st_nels ?_ | refine tk_eqls ?_ | refine tk_nels ?_ | refine mv.mk ?_ | refine nk_p ?_ | refine gdT_i ?_ | refine gdT_ft ?_ | refine gdT_tf ?_ | refine gdT_u ?_ | refine gd_u ?_ | refine gd_ft ?_ | refine gd_tf ?_ | refine gd_i ?_ | refine pk_t ?_ | refine pk_f ?_ | refine br_t ?_ | refine br_f ?_ | refine sp_boxa hs fun g w hs => ?_))
   | (with_reducible ((first | apply st_bin | apply st_ext | apply st_len | apply st_un | apply st_conv | apply st_mki | apply st_fld | apply st_cap | apply st_max | apply st_min | apply st_ixv | apply st_mkf); intro k' hk; simp [go_sem, thenR_ok, bin]; refine hk _ _ ?_; clear hk k'))
   | ((with_reducible (first | apply tk_bin | apply tk_ext | apply tk_len | apply tk_un)); (· intro w; simp [go_sem, bin]; rfl))
   | ((with_reducible apply sp_newr hs); (· kernel_rfl); intro g w hs))
  refine br_split (fun hq => ?_) (fun hq => ?_)
  · have hi' : i < l.length := by have := of_decide_eq_true hq; omega
    refine sp_eln hs (F := valiF) (ls := l) (.tl (.tl hm.lst)) tVals (by kernel_rfl) i rfl hi' fun xs hxl hs => ?_
    have hxo := hs.ok valiF_ok (cs := xs) .hd
    have hv : ValiIs xs l[i] := hs.get (I := (valiF xs l[i]).it) .hd
    have hok : (l[i]).ok := by obtain ⟨_, h⟩ := hv; exact h
    have hel := encVal_len hok (hnm _ (List.getElem_mem hi'))
    have hnl := hnm _ (List.getElem_mem hi')
    refine sp_newr hs (by kernel_rfl) fun g5 w hs => ?_
    refine sp_setr hs .hd (by kernel_rfl) hxo.1 hxo.2 fun w hs => ?_
    refine cl pack_New ?_
    rintro _ w2 ⟨gw, rfl, hW, hu⟩
    repeat with_reducible refine mv.mk ?_
    refine sp_loadall (hs.ext hu) .hd (by kernel_rfl) hxo.1 ?_
    refine cl (types_putValidator hv hW.start (by simp only [List.length_nil]; omega)) ?_
    rintro _ w3 ⟨_, h3⟩
    have hL := h3.low
    obtain ⟨v3, hW3, _⟩ := h3.now
    rw [List.nil_append] at hW3
    have hs3 := hs.ext (low_ext hu hL (Nat.le_refl _))
    repeat with_reducible refine mv.mk ?_
    refine cl (pack_Writer_Done hW3 (by omega)) ?_
    rintro r w4 hN
    replace hs := newB_sep hs3 hN
    clear hs3 hL h3 hW hW3 hu
    refine cl (sha_Leaf hs (.tl (.tl (.tl (.tl (.tl hR))))) .hd (by omega)) ?_
    rintro _ w ⟨rfl, hs⟩
    replace hs := Sep.hash hs (leafB_len (encValidator l[i]))
    refine sp_lita hs tHashes (by rw [u8s_length, leafB_len]) (by decide) fun u w hs => ?_
    have hll : ((l.take i).map fun v => leafB (encValidator v)).length = i := by rw [List.length_map, List.length_take]; omega
    refine sp_push (a := leafB (encValidator l[i])) hs (by first | ((repeat (first | with_reducible exact Has.hd | with_reducible apply Has.tl)); done) | (repeat (first | exact Has.hd | with_reducible apply Has.tl))) tHashes .sl (by repeat (first | with_reducible exact Ins.hd | with_reducible apply Ins.tl)) (u8s_one _) (by rw [hll]; omega) (by rw [hll]; omega) fun v' w hs => ?_
    rw [show ((l.take i).map fun v => leafB (encValidator v)) ++ [leafB (encValidator l[i])] = (l.take (i + 1)).map fun v => leafB (encValidator v) by rw [List.take_succ_eq_append_getElem hi', List.map_append]; rfl] at hs
    repeat (first
     | (with_reducible (first | refine st_lens ?_ | refine st_eqls ?_ | refine st_nels ?_ | refine tk_eqls ?_ | refine tk_nels ?_ | refine mv.mk ?_ | refine nk_p ?_ | refine gdT_i ?_ | refine gdT_ft ?_ | refine gdT_tf ?_ | refine gdT_u ?_ | refine gd_u ?_ | refine gd_ft ?_ | refine gd_tf ?_ | refine gd_i ?_ | refine pk_t ?_ | refine pk_f ?_ | refine br_t ?_ | refine br_f ?_ | refine sp_boxa hs fun g w hs => ?_))
     | (with_reducible ((first | apply st_bin | apply st_ext | apply st_len | apply st_un | apply st_conv | apply st_mki | apply st_fld | apply st_cap | apply st_max | apply st_min | apply st_ixv | apply st_mkf); intro k' hk; simp [go_sem, thenR_ok, bin]; refine hk _ _ ?_; clear hk k'))
     | ((with_reducible (first | apply tk_bin | apply tk_ext | apply tk_len | apply tk_un)); (· intro w; simp [go_sem, bin]; rfl))
     | ((with_reducible apply sp_newr hs); (· kernel_rfl); intro g w hs))
    rw [i64_succ (by omega)]
    exact ⟨⟨i + 1, _, _, rfl, hi', hs.sbl (by repeat (first | with_reducible exact Sbl.all | with_reducible exact Sbl.nil | refine Sbl.cons (by first | ((repeat (first | with_reducible exact Has.hd | with_reducible apply Has.tl)); done) | (repeat (first | exact Has.hd | with_reducible apply Has.tl))) ?_ | refine Sbl.drop ?_))⟩, by simp; omega⟩
  obtain rfl : i = l.length := by have := of_decide_eq_false hq; omega
  rw [List.take_length] at hs
  replace hs := hs.growF .hd
  repeat with_reducible refine mv.mk ?_
  refine cl (sha_Root _ rfl hs (.tl (.tl hR)) .hd (by rw [List.length_map]; omega)) ?_
  rintro _ w ⟨rfl, hs⟩
  have hrl : (rootB (l.map fun v => leafB (encValidator v))).length = 32 := rootB_len _ rfl fun x hx => by
    obtain ⟨v, _, rfl⟩ := List.mem_map.1 hx
    exact leafB_len _
  refine sp_ret hs (.tl .hd) (by kernel_rfl) (by rw [u8s_length, hrl]) (u8s_one _) fun w hs => ?_
  exact ⟨rfl, hs.drop .hd⟩
theorem isthmusref11_SetHash (hs : Sep b w L) (hm : Ins L (listF valiF 34 sv l).it) (hn : l.length ≤ 1073741824) (hnm : ∀ v ∈ l, v.name.length ≤ 1073741824) :
    C Tryz.prog N.isthmusref11_SetHash #[sv] w fun r w' => r = .agg (u8s (setHashB l)).toArray ∧ Sep b w' L := by
  obtain ⟨A, c, rfl⟩ := hs.lst_len hm.lst
  refine C.isthmusref11_SetHash ?_
  unfold F.isthmusref11_SetHash
  refine sp_newr hs (by kernel_rfl) fun g2 w hs => ?_
  repeat with_reducible refine mv.mk ?_
  replace hs := hs.grow0 hshF T.api_Hash 32
  refine lp_by (fun us w' => ∃ (i : Nat) (v : Value), us = [v, .int .i64 i] ∧ i ≤ l.length ∧ Sep b w' (growI hshF T.api_Hash 32 v ((l.take i).map fun v => leafB (encValidator v)) :: resI Tryz.prog g2 T.api_Hash :: L)) (fun us _ => match us with | [_, .int _ m] => l.length - m.toNat | _ => 0) ⟨0, _, rfl, Nat.zero_le _, hs⟩ ?_
  clear hs w
  rintro x w ⟨i, v, hx, hi, hs⟩
  simp only [List.cons.injEq, and_true] at hx
  simp only [hx.1, hx.2]
  clear hx
  repeat (first
   | (with_reducible (first | refine st_lens ?_ | refine st_eqls ?_ | refine st_nels ?_ | refine tk_eqls ?_ | refine tk_nels ?_ | refine mv.mk ?_ | refine nk_p ?_ | refine gdT_i ?_ | refine gdT_ft ?_ | refine gdT_tf ?_ | refine gdT_u ?_ | refine gd_u ?_ | refine gd_ft ?_ | refine gd_tf ?_ | refine gd_i ?_ | refine pk_t ?_ | refine pk_f ?_ | refine br_t ?_ | refine br_f ?_ | refine sp_boxa hs fun g w hs => ?_))
   | (with_reducible ((first | apply st_bin | apply st_ext | apply st_len | apply st_un | apply st_conv | apply st_mki | apply st_fld | apply st_cap | apply st_max | apply st_min | apply st_ixv | apply st_mkf); intro k' hk; simp [go_sem, thenR_ok, bin]; refine hk _ _ ?_; clear hk k'))
   | ((with_reducible (first | apply tk_bin | apply tk_ext | apply tk_len | apply tk_un)); (· intro w; simp [go_sem, bin]; rfl))
   | ((with_reducible apply sp_newr hs); (· kernel_rfl); intro g w hs))
  refine br_split (fun hq => ?_) (fun hq => ?_)
  · have hi' : i < l.length := by have := of_decide_eq_true hq; omega
    repeat with_reducible refine mv.mk ?_
    refine sp_eln hs (F := valiF) (ls := l) (.tl (.tl hm.lst)) tVals (by kernel_rfl) i rfl hi' fun xs hxl hs => ?_
    have hv : ValiIs xs l[i] := hs.get (I := (valiF xs l[i]).it) .hd
    have hok : (l[i]).ok := by obtain ⟨_, h⟩ := hv; exact h
    have hel := encVal_len hok (hnm _ (List.getElem_mem hi'))
    have hnl := hnm _ (List.getElem_mem hi')
    refine cl (isthmusref11_validator (l := []) (Sl.nil 1) hv (by simp only [List.length_nil]; omega)) ?_
    rintro r w4 hN
    rw [List.nil_append] at hN
    replace hs := newB_sep hs hN
    refine cl (isthmusref01_Leaf hs .hd (by omega)) ?_
    rintro _ w ⟨rfl, hs⟩
    replace hs := Sep.hash hs (leafB_len (encValidator l[i]))
    refine sp_lita hs tHashes (by rw [u8s_length, leafB_len]) (by decide) fun u w hs => ?_
    have hll : ((l.take i).map fun v => leafB (encValidator v)).length = i := by rw [List.length_map, List.length_take]; omega
    refine sp_push (a := leafB (encValidator l[i])) hs (by first | ((repeat (first | with_reducible exact Has.hd | with_reducible apply Has.tl)); done) | (repeat (first | exact Has.hd | with_reducible apply Has.tl))) tHashes .sl (by repeat (first | with_reducible exact Ins.hd | with_reducible apply Ins.tl)) (u8s_one _) (by rw [hll]; omega) (by rw [hll]; omega) fun v' w hs => ?_
    rw [show ((l.take i).map fun v => leafB (encValidator v)) ++ [leafB (encValidator l[i])] = (l.take (i + 1)).map fun v => leafB (encValidator v) by rw [List.take_succ_eq_append_getElem hi', List.map_append]; rfl] at hs
    repeat (first
     | (with_reducible (first | refine st_lens ?_ | refine st_eqls ?_ | refine st_nels ?_ | refine tk_eqls ?_ | refine tk_nels ?_ | refine mv.mk ?_ | refine nk_p ?_ | refine gdT_i ?_ | refine gdT_ft ?_ | refine gdT_tf ?_ | refine gdT_u ?_ | refine gd_u ?_ | refine gd_ft ?_ | refine gd_tf ?_ | refine gd_i ?_ | refine pk_t ?_ | refine pk_f ?_ | refine br_t ?_ | refine br_f ?_ | refine sp_boxa hs fun g w hs => ?_))
     | (with_reducible ((first | apply st_bin | apply st_ext | apply st_len | apply st_un | apply st_conv | apply st_mki | apply st_fld | apply st_cap | apply st_max | apply st_min | apply st_ixv | apply st_mkf); intro k' hk; simp [go_sem, thenR_ok, bin]; refine hk _ _ ?_; clear hk k'))
     | ((with_reducible (first | apply tk_bin | apply tk_ext | apply tk_len | apply tk_un)); (· intro w; simp [go_sem, bin]; rfl))
     | ((with_reducible apply sp_newr hs); (· kernel_rfl); intro g w hs))
    rw [i64_succ (by omega)]
    exact ⟨⟨i + 1, _, rfl, hi', hs.sbl (by repeat (first | with_reducible exact Sbl.all | with_reducible exact Sbl.nil | refine Sbl.cons (by first | ((repeat (first | with_reducible exact Has.hd | with_reducible apply Has.tl)); done) | (repeat (first | exact Has.hd | with_reducible apply Has.tl))) ?_ | refine Sbl.drop ?_))⟩, by simp; omega⟩
  obtain rfl : i = l.length := by have := of_decide_eq_false hq; omega
  rw [List.take_length] at hs
  replace hs := hs.growF .hd
  repeat with_reducible refine mv.mk ?_
  refine cl (isthmusref01_Root _ rfl hs .hd (by rw [List.length_map]; omega)) ?_
  rintro _ w ⟨rfl, hs⟩
  have hrl : (rootB (l.map fun v => leafB (encValidator v))).length = 32 := rootB_len _ rfl fun x hx => by
    obtain ⟨v, _, rfl⟩ := List.mem_map.1 hx
    exact leafB_len _
  refine sp_ret hs (.tl .hd) (by kernel_rfl) (by rw [u8s_length, hrl]) (u8s_one _) fun w hs => ?_
  exact ⟨rfl, hs.drop .hd⟩
theorem badC_split (c : UInt8) : badC c = (decide ((c.toNat : Int) < 33) || decide ((126 : Int) < (c.toNat : Int))) := by
  unfold badC
  congr 1 <;> (rw [Bool.eq_iff_iff]; simp; omega)
theorem isthmusref11_Named (hs : Sep b w L) (hn : s.length ≤ 4611686018427387904) : C Tryz.prog N.isthmusref11_Named #[str s] w fun r w' => r = .bool (namedB s) ∧ Sep b w' L := by
  refine C.isthmusref11_Named ?_
  unfold F.isthmusref11_Named
  repeat with_reducible refine mv.mk ?_
  refine lp_by (fun us w' => ∃ (i : Nat), us = [.bool false, .int .i64 i] ∧ i ≤ s.length ∧ (∀ j (h : j < s.length), j < i → badC s[j] = false) ∧ Sep b w' L) (fun us _ => match us with | [_, .int _ m] => s.length - m.toNat | _ => 0) ⟨0, rfl, Nat.zero_le _, fun j h hj => absurd hj (Nat.not_lt_zero _), hs⟩ ?_
  clear hs
  rintro x w ⟨i, hx, hi, hgood, hs⟩
  simp only [List.cons.injEq, and_true] at hx
  simp only [hx.1, hx.2]
  clear hx
  repeat (first
   | (with_reducible (first | refine st_lens ?_ | refine st_eqls ?_ | refine st_nels ?_ | refine tk_eqls ?_ | refine tk_nels ?_ | refine mv.mk ?_ | refine nk_p ?_ | refine gdT_i ?_ | refine gdT_ft ?_ | refine gdT_tf ?_ | refine gdT_u ?_ | refine gd_u ?_ | refine gd_ft ?_ | refine gd_tf ?_ | refine gd_i ?_ | refine pk_t ?_ | refine pk_f ?_ | refine br_t ?_ | refine br_f ?_ | refine sp_boxa hs fun g w hs => ?_))
   | (with_reducible ((first | apply st_bin | apply st_ext | apply st_len | apply st_un | apply st_conv | apply st_mki | apply st_fld | apply st_cap | apply st_max | apply st_min | apply st_ixv | apply st_mkf); intro k' hk; simp [go_sem, thenR_ok, bin]; refine hk _ _ ?_; clear hk k'))
   | ((with_reducible (first | apply tk_bin | apply tk_ext | apply tk_len | apply tk_un)); (· intro w; simp [go_sem, bin]; rfl))
   | ((with_reducible apply sp_newr hs); (· kernel_rfl); intro g w hs))
  refine br_split (fun hq => ?_) (fun hq => ?_)
  · have hi' : i < s.length := by have := of_decide_eq_true hq; omega
    have hix : ∀ w, (Instr.index T.string (str s) (.int .i64 (i : Int))).run Tryz.prog w = .ok (.int .u8 ((s[i]).toNat : Int)) w := fun w => idx_str (s := s.toArray) (by simp [hi']) w
    have hbad : badC s[i] = true → namedB s = false := fun h => by
      have : s.any badC = true := List.any_eq_true.2 ⟨_, List.getElem_mem hi', h⟩
      simp [namedB, this]
    have hsp := badC_split s[i]
    repeat with_reducible refine mv.mk ?_
    refine st_of (hix w) ?_
    repeat (first
     | (with_reducible (first | refine st_lens ?_ | refine st_eqls ?_ | refine st_nels ?_ | refine tk_eqls ?_ | refine tk_nels ?_ | refine mv.mk ?_ | refine nk_p ?_ | refine gdT_i ?_ | refine gdT_ft ?_ | refine gdT_tf ?_ | refine gdT_u ?_ | refine gd_u ?_ | refine gd_ft ?_ | refine gd_tf ?_ | refine gd_i ?_ | refine pk_t ?_ | refine pk_f ?_ | refine br_t ?_ | refine br_f ?_ | refine sp_boxa hs fun g w hs => ?_))
     | (with_reducible ((first | apply st_bin | apply st_ext | apply st_len | apply st_un | apply st_conv | apply st_mki | apply st_fld | apply st_cap | apply st_max | apply st_min | apply st_ixv | apply st_mkf); intro k' hk; simp [go_sem, thenR_ok, bin]; refine hk _ _ ?_; clear hk k'))
     | ((with_reducible (first | apply tk_bin | apply tk_ext | apply tk_len | apply tk_un)); (· intro w; simp [go_sem, bin]; rfl))
     | ((with_reducible apply sp_newr hs); (· kernel_rfl); intro g w hs))
    cases h1 : decide (((s[i]).toNat : Int) < 33) with
    | true =>
      repeat (first
       | (with_reducible (first | refine st_lens ?_ | refine st_eqls ?_ | refine st_nels ?_ | refine tk_eqls ?_ | refine tk_nels ?_ | refine mv.mk ?_ | refine nk_p ?_ | refine gdT_i ?_ | refine gdT_ft ?_ | refine gdT_tf ?_ | refine gdT_u ?_ | refine gd_u ?_ | refine gd_ft ?_ | refine gd_tf ?_ | refine gd_i ?_ | refine pk_t ?_ | refine pk_f ?_ | refine br_t ?_ | refine br_f ?_ | refine sp_boxa hs fun g w hs => ?_))
       | (with_reducible ((first | apply st_bin | apply st_ext | apply st_len | apply st_un | apply st_conv | apply st_mki | apply st_fld | apply st_cap | apply st_max | apply st_min | apply st_ixv | apply st_mkf); intro k' hk; simp [go_sem, thenR_ok, bin]; refine hk _ _ ?_; clear hk k'))
       | ((with_reducible (first | apply tk_bin | apply tk_ext | apply tk_len | apply tk_un)); (· intro w; simp [go_sem, bin]; rfl))
       | ((with_reducible apply sp_newr hs); (· kernel_rfl); intro g w hs))
      exact ⟨by rw [hbad (by rw [hsp, h1]; rfl)], hs⟩
    | false =>
      repeat with_reducible refine mv.mk ?_
      refine gd_i ?_
      repeat with_reducible refine mv.mk ?_
      refine gd_i ?_
      repeat with_reducible refine mv.mk ?_
      refine gd_i ?_
      refine st_of (hix w) ?_
      repeat (first
       | (with_reducible (first | refine st_lens ?_ | refine st_eqls ?_ | refine st_nels ?_ | refine tk_eqls ?_ | refine tk_nels ?_ | refine mv.mk ?_ | refine nk_p ?_ | refine gdT_i ?_ | refine gdT_ft ?_ | refine gdT_tf ?_ | refine gdT_u ?_ | refine gd_u ?_ | refine gd_ft ?_ | refine gd_tf ?_ | refine gd_i ?_ | refine pk_t ?_ | refine pk_f ?_ | refine br_t ?_ | refine br_f ?_ | refine sp_boxa hs fun g w hs => ?_))
       | (with_reducible ((first | apply st_bin | apply st_ext | apply st_len | apply st_un | apply st_conv | apply st_mki | apply st_fld | apply st_cap | apply st_max | apply st_min | apply st_ixv | apply st_mkf); intro k' hk; simp [go_sem, thenR_ok, bin]; refine hk _ _ ?_; clear hk k'))
       | ((with_reducible (first | apply tk_bin | apply tk_ext | apply tk_len | apply tk_un)); (· intro w; simp [go_sem, bin]; rfl))
       | ((with_reducible apply sp_newr hs); (· kernel_rfl); intro g w hs))
      cases h2 : decide ((126 : Int) < ((s[i]).toNat : Int)) with
      | true =>
        repeat (first
         | (with_reducible (first | refine st_lens ?_ | refine st_eqls ?_ | refine st_nels ?_ | refine tk_eqls ?_ | refine tk_nels ?_ | refine mv.mk ?_ | refine nk_p ?_ | refine gdT_i ?_ | refine gdT_ft ?_ | refine gdT_tf ?_ | refine gdT_u ?_ | refine gd_u ?_ | refine gd_ft ?_ | refine gd_tf ?_ | refine gd_i ?_ | refine pk_t ?_ | refine pk_f ?_ | refine br_t ?_ | refine br_f ?_ | refine sp_boxa hs fun g w hs => ?_))
         | (with_reducible ((first | apply st_bin | apply st_ext | apply st_len | apply st_un | apply st_conv | apply st_mki | apply st_fld | apply st_cap | apply st_max | apply st_min | apply st_ixv | apply st_mkf); intro k' hk; simp [go_sem, thenR_ok, bin]; refine hk _ _ ?_; clear hk k'))
         | ((with_reducible (first | apply tk_bin | apply tk_ext | apply tk_len | apply tk_un)); (· intro w; simp [go_sem, bin]; rfl))
         | ((with_reducible apply sp_newr hs); (· kernel_rfl); intro g w hs))
        exact ⟨by rw [hbad (by rw [hsp, h1, h2]; rfl)], hs⟩
      | false =>
        repeat (first
         | (with_reducible (first | refine st_lens ?_ | refine st_eqls ?_ | refine st_nels ?_ | refine tk_eqls ?_ | refine tk_nels ?_ | refine mv.mk ?_ | refine nk_p ?_ | refine gdT_i ?_ | refine gdT_ft ?_ | refine gdT_tf ?_ | refine gdT_u ?_ | refine gd_u ?_ | refine gd_ft ?_ | refine gd_tf ?_ | refine gd_i ?_ | refine pk_t ?_ | refine pk_f ?_ | refine br_t ?_ | refine br_f ?_ | refine sp_boxa hs fun g w hs => ?_))
         | (with_reducible ((first | apply st_bin | apply st_ext | apply st_len | apply st_un | apply st_conv | apply st_mki | apply st_fld | apply st_cap | apply st_max | apply st_min | apply st_ixv | apply st_mkf); intro k' hk; simp [go_sem, thenR_ok, bin]; refine hk _ _ ?_; clear hk k'))
         | ((with_reducible (first | apply tk_bin | apply tk_ext | apply tk_len | apply tk_un)); (· intro w; simp [go_sem, bin]; rfl))
         | ((with_reducible apply sp_newr hs); (· kernel_rfl); intro g w hs))
        rw [i64_succ (by omega)]
        refine ⟨⟨i + 1, rfl, hi', fun j h hj => ?_, hs⟩, by simp; omega⟩
        rcases Nat.lt_or_ge j i with h3 | h3
        · exact hgood j h h3
        · obtain rfl : j = i := by omega
          rw [hsp, h1, h2]; rfl
  obtain rfl : i = s.length := by have := of_decide_eq_false hq; omega
  have hany : s.any badC = false := by
    rw [List.any_eq_false]
    intro c hc
    obtain ⟨j, hj, rfl⟩ := List.mem_iff_getElem.1 hc
    rw [hgood j hj hj]
    simp
  repeat (first
   | (with_reducible (first | refine st_lens ?_ | refine st_eqls ?_ | refine st_nels ?_ | refine tk_eqls ?_ | refine tk_nels ?_ | refine mv.mk ?_ | refine nk_p ?_ | refine gdT_i ?_ | refine gdT_ft ?_ | refine gdT_tf ?_ | refine gdT_u ?_ | refine gd_u ?_ | refine gd_ft ?_ | refine gd_tf ?_ | refine gd_i ?_ | refine pk_t ?_ | refine pk_f ?_ | refine br_t ?_ | refine br_f ?_ | refine sp_boxa hs fun g w hs => ?_))
   | (with_reducible ((first | apply st_bin | apply st_ext | apply st_len | apply st_un | apply st_conv | apply st_mki | apply st_fld | apply st_cap | apply st_max | apply st_min | apply st_ixv | apply st_mkf); intro k' hk; simp [go_sem, thenR_ok, bin]; refine hk _ _ ?_; clear hk k'))
   | ((with_reducible (first | apply tk_bin | apply tk_ext | apply tk_len | apply tk_un)); (· intro w; simp [go_sem, bin]; rfl))
   | ((with_reducible apply sp_newr hs); (· kernel_rfl); intro g w hs))
  by_cases h1 : 0 < s.length
  · rw [decide_eq_true h1]
    repeat (first
     | (with_reducible (first | refine st_lens ?_ | refine st_eqls ?_ | refine st_nels ?_ | refine tk_eqls ?_ | refine tk_nels ?_ | refine mv.mk ?_ | refine nk_p ?_ | refine gdT_i ?_ | refine gdT_ft ?_ | refine gdT_tf ?_ | refine gdT_u ?_ | refine gd_u ?_ | refine gd_ft ?_ | refine gd_tf ?_ | refine gd_i ?_ | refine pk_t ?_ | refine pk_f ?_ | refine br_t ?_ | refine br_f ?_ | refine sp_boxa hs fun g w hs => ?_))
     | (with_reducible ((first | apply st_bin | apply st_ext | apply st_len | apply st_un | apply st_conv | apply st_mki | apply st_fld | apply st_cap | apply st_max | apply st_min | apply st_ixv | apply st_mkf); intro k' hk; simp [go_sem, thenR_ok, bin]; refine hk _ _ ?_; clear hk k'))
     | ((with_reducible (first | apply tk_bin | apply tk_ext | apply tk_len | apply tk_un)); (· intro w; simp [go_sem, bin]; rfl))
     | ((with_reducible apply sp_newr hs); (· kernel_rfl); intro g w hs))
    refine ⟨?_, hs⟩
    congr 1
    rw [namedB, hany, Bool.eq_iff_iff]
    simp only [decide_eq_true_eq, Bool.and_eq_true, Bool.not_false, and_true]
    omega
  · rw [decide_eq_false h1]
    repeat (first
     | (with_reducible (first | refine st_lens ?_ | refine st_eqls ?_ | refine st_nels ?_ | refine tk_eqls ?_ | refine tk_nels ?_ | refine mv.mk ?_ | refine nk_p ?_ | refine gdT_i ?_ | refine gdT_ft ?_ | refine gdT_tf ?_ | refine gdT_u ?_ | refine gd_u ?_ | refine gd_ft ?_ | refine gd_tf ?_ | refine gd_i ?_ | refine pk_t ?_ | refine pk_f ?_ | refine br_t ?_ | refine br_f ?_ | refine sp_boxa hs fun g w hs => ?_))
     | (with_reducible ((first | apply st_bin | apply st_ext | apply st_len | apply st_un | apply st_conv | apply st_mki | apply st_fld | apply st_cap | apply st_max | apply st_min | apply st_ixv | apply st_mkf); intro k' hk; simp [go_sem, thenR_ok, bin]; refine hk _ _ ?_; clear hk k'))
     | ((with_reducible (first | apply tk_bin | apply tk_ext | apply tk_len | apply tk_un)); (· intro w; simp [go_sem, bin]; rfl))
     | ((with_reducible apply sp_newr hs); (· kernel_rfl); intro g w hs))
    refine ⟨?_, hs⟩
    rw [namedB, decide_eq_false (by omega)]
    rfl
theorem isthmusref11_Total (hs : Sep b w L) (hm : Ins L (listF valiF 34 sv l).it) (hn : l.length ≤ 4611686018427387904) : C Tryz.prog N.isthmusref11_Total #[sv] w fun r w' => r = .int .i64 (total l) ∧ Sep b w' L := by
  obtain ⟨A, c, hsv⟩ := hs.lst_len hm.lst
  refine C.isthmusref11_Total ?_
  unfold F.isthmusref11_Total
  repeat with_reducible refine mv.mk ?_
  refine lp_by (fun us w' => ∃ (i : Nat) (n : Int), us = [.int .i64 n, .int .i64 i] ∧ i ≤ l.length ∧ n = total (l.take i) ∧ Sep b w' L) (fun us _ => match us with | [_, .int _ m] => l.length - m.toNat | _ => 0) ⟨0, 0, rfl, Nat.zero_le _, rfl, hs⟩ ?_
  clear hs
  rintro x w ⟨i, n, hx, hi, rfl, hs⟩
  simp only [List.cons.injEq, and_true] at hx
  simp only [hx.1, hx.2]
  clear hx
  repeat with_reducible refine mv.mk ?_
  rw [hsv]
  repeat (first
   | (with_reducible (first | refine st_lens ?_ | refine st_eqls ?_ | refine st_nels ?_ | refine tk_eqls ?_ | refine tk_nels ?_ | refine mv.mk ?_ | refine nk_p ?_ | refine gdT_i ?_ | refine gdT_ft ?_ | refine gdT_tf ?_ | refine gdT_u ?_ | refine gd_u ?_ | refine gd_ft ?_ | refine gd_tf ?_ | refine gd_i ?_ | refine pk_t ?_ | refine pk_f ?_ | refine br_t ?_ | refine br_f ?_ | refine sp_boxa hs fun g w hs => ?_))
   | (with_reducible ((first | apply st_bin | apply st_ext | apply st_len | apply st_un | apply st_conv | apply st_mki | apply st_fld | apply st_cap | apply st_max | apply st_min | apply st_ixv | apply st_mkf); intro k' hk; simp [go_sem, thenR_ok, bin]; refine hk _ _ ?_; clear hk k'))
   | ((with_reducible (first | apply tk_bin | apply tk_ext | apply tk_len | apply tk_un)); (· intro w; simp [go_sem, bin]; rfl))
   | ((with_reducible apply sp_newr hs); (· kernel_rfl); intro g w hs))
  rw [← hsv]
  refine br_split (fun hq => ?_) (fun hq => ?_)
  · have hi' : i < l.length := by have := of_decide_eq_true hq; omega
    obtain ⟨g1, o1, xs, hr1, hl1, hs1⟩ := hs.el hm tVals i hi'
    obtain ⟨rfl, hok⟩ := vali_of hs1 (.tl .hd)
    repeat with_reducible refine mv.mk ?_
    refine st_of (hr1 .i64 w) ?_
    refine vali.l2 hs1 .rng (u8s_len hok.key) ?_
    repeat (first
     | (with_reducible (first | refine st_lens ?_ | refine st_eqls ?_ | refine st_nels ?_ | refine tk_eqls ?_ | refine tk_nels ?_ | refine mv.mk ?_ | refine nk_p ?_ | refine gdT_i ?_ | refine gdT_ft ?_ | refine gdT_tf ?_ | refine gdT_u ?_ | refine gd_u ?_ | refine gd_ft ?_ | refine gd_tf ?_ | refine gd_i ?_ | refine pk_t ?_ | refine pk_f ?_ | refine br_t ?_ | refine br_f ?_ | refine sp_boxa hs fun g w hs => ?_))
     | (with_reducible ((first | apply st_bin | apply st_ext | apply st_len | apply st_un | apply st_conv | apply st_mki | apply st_fld | apply st_cap | apply st_max | apply st_min | apply st_ixv | apply st_mkf); intro k' hk; simp [go_sem, thenR_ok, bin]; refine hk _ _ ?_; clear hk k'))
     | ((with_reducible (first | apply tk_bin | apply tk_ext | apply tk_len | apply tk_un)); (· intro w; simp [go_sem, bin]; rfl))
     | ((with_reducible apply sp_newr hs); (· kernel_rfl); intro g w hs))
    rw [i64_succ (by omega)]
    refine ⟨⟨i + 1, _, rfl, hi', ?_, hs⟩, by simp; omega⟩
    show _ = (l.take (i + 1)).foldl (fun n v => IntKind.i64.wrap (n + v.power)) 0
    rw [foldl_take _ _ hi']
    rfl
  · obtain rfl : i = l.length := by have := of_decide_eq_false hq; omega
    rw [List.take_length]
    repeat with_reducible refine mv.mk ?_
    exact ⟨rfl, hs⟩
/-- what is left of the power, by the sum so far -/
theorem setLeft_sum {i : Nat} {sum : Int} (hi : i < l.length) (h : setLeft l i = if sum ≤ 1099511627776 then some (1099511627776 - sum) else none)
    (hnm : namedB l[i].name = true) (hp : ¬ l[i].power < 1) (hdup : (l.take i).any (fun x => decide (x.name = l[i].name)) = false) :
    setLeft l (i + 1) = if sum + l[i].power ≤ 1099511627776 then some (1099511627776 - (sum + l[i].power)) else none := by
  rw [setLeft, h]
  by_cases h1 : sum ≤ 1099511627776
  · rw [if_pos h1, Option.bind_some, List.getElem?_eq_getElem hi]
    simp only [hnm, hdup]
    by_cases h2 : sum + l[i].power ≤ 1099511627776
    · rw [if_pos h2, if_neg (by simp; omega)]
      congr 1; omega
    · rw [if_neg h2, if_pos (by simp; omega)]
  · rw [if_neg h1, Option.bind_none, if_neg (by omega)]
theorem setLeft_bad {i : Nat} (hi : i < l.length) (h : namedB l[i].name = false ∨ (l.take i).any (fun x => decide (x.name = l[i].name)) = true ∨ l[i].power < 1 ∨ 1099511627776 < l[i].power) : setLeft l (i + 1) = none := by
  rw [setLeft]
  cases hl : setLeft l i with
  | none => rfl
  | some left =>
    have hle := setLeft_le hl
    rw [Option.bind_some, List.getElem?_eq_getElem hi]
    simp only []
    rw [if_pos]
    rcases h with h | h | h | h
    · exact .inl h
    · exact .inr (.inl h)
    · exact .inr (.inr (.inl h))
    · exact .inr (.inr (.inr (by omega)))
theorem checkSet_bad {i : Nat} (hi : i < l.length) (h : setLeft l (i + 1) = none) : checkSet l = 30 := by
  rw [checkSet]
  split
  · rfl
  · rw [setLeft_none h l.length hi]; rfl
theorem isthmusref11_CheckSet (hs : Sep b w L) (hm : Ins L (listF valiF 34 sv l).it) (hn : l.length ≤ 4611686018427387904) (hnm : ∀ v ∈ l, v.name.length ≤ 4611686018427387904) : C Tryz.prog N.isthmusref11_CheckSet #[sv] w fun r w' => r = .int .i64 (checkSet l) ∧ Sep b w' L := by
  obtain ⟨A, c, hsv⟩ := hs.lst_len hm.lst
  have hlen : ∀ w', (Builtin.len_ #[T.sl_api_Validator] T.int #[sv]).run Tryz.prog w' = .ok (.int .i64 l.length) w' := fun w' => by rw [hsv]; simp [go_sem]
  refine C.isthmusref11_CheckSet ?_
  unfold F.isthmusref11_CheckSet
  repeat with_reducible refine mv.mk ?_
  refine st_of (hlen w) ?_
  repeat (first
   | (with_reducible (first | refine st_lens ?_ | refine st_eqls ?_ | refine st_nels ?_ | refine tk_eqls ?_ | refine tk_nels ?_ | refine mv.mk ?_ | refine nk_p ?_ | refine gdT_i ?_ | refine gdT_ft ?_ | refine gdT_tf ?_ | refine gdT_u ?_ | refine gd_u ?_ | refine gd_ft ?_ | refine gd_tf ?_ | refine gd_i ?_ | refine pk_t ?_ | refine pk_f ?_ | refine br_t ?_ | refine br_f ?_ | refine sp_boxa hs fun g w hs => ?_))
   | (with_reducible ((first | apply st_bin | apply st_ext | apply st_len | apply st_un | apply st_conv | apply st_mki | apply st_fld | apply st_cap | apply st_max | apply st_min | apply st_ixv | apply st_mkf); intro k' hk; simp [go_sem, thenR_ok, bin]; refine hk _ _ ?_; clear hk k'))
   | ((with_reducible (first | apply tk_bin | apply tk_ext | apply tk_len | apply tk_un)); (· intro w; simp [go_sem, bin]; rfl))
   | ((with_reducible apply sp_newr hs); (· kernel_rfl); intro g w hs))
  by_cases h0 : l.length < 1
  · rw [show decide ((l.length : Int) < 1) = true by simp; omega]
    repeat (first
     | (with_reducible (first | refine st_lens ?_ | refine st_eqls ?_ | refine st_nels ?_ | refine tk_eqls ?_ | refine tk_nels ?_ | refine mv.mk ?_ | refine nk_p ?_ | refine gdT_i ?_ | refine gdT_ft ?_ | refine gdT_tf ?_ | refine gdT_u ?_ | refine gd_u ?_ | refine gd_ft ?_ | refine gd_tf ?_ | refine gd_i ?_ | refine pk_t ?_ | refine pk_f ?_ | refine br_t ?_ | refine br_f ?_ | refine sp_boxa hs fun g w hs => ?_))
     | (with_reducible ((first | apply st_bin | apply st_ext | apply st_len | apply st_un | apply st_conv | apply st_mki | apply st_fld | apply st_cap | apply st_max | apply st_min | apply st_ixv | apply st_mkf); intro k' hk; simp [go_sem, thenR_ok, bin]; refine hk _ _ ?_; clear hk k'))
     | ((with_reducible (first | apply tk_bin | apply tk_ext | apply tk_len | apply tk_un)); (· intro w; simp [go_sem, bin]; rfl))
     | ((with_reducible apply sp_newr hs); (· kernel_rfl); intro g w hs))
    exact ⟨by rw [checkSet, if_pos (.inl (by omega))], hs⟩
  rw [show decide ((l.length : Int) < 1) = false by simp; omega]
  repeat with_reducible refine mv.mk ?_
  refine gd_i ?_
  repeat with_reducible refine mv.mk ?_
  refine gd_i ?_
  refine st_of (hlen w) ?_
  repeat (first
   | (with_reducible (first | refine st_lens ?_ | refine st_eqls ?_ | refine st_nels ?_ | refine tk_eqls ?_ | refine tk_nels ?_ | refine mv.mk ?_ | refine nk_p ?_ | refine gdT_i ?_ | refine gdT_ft ?_ | refine gdT_tf ?_ | refine gdT_u ?_ | refine gd_u ?_ | refine gd_ft ?_ | refine gd_tf ?_ | refine gd_i ?_ | refine pk_t ?_ | refine pk_f ?_ | refine br_t ?_ | refine br_f ?_ | refine sp_boxa hs fun g w hs => ?_))
   | (with_reducible ((first | apply st_bin | apply st_ext | apply st_len | apply st_un | apply st_conv | apply st_mki | apply st_fld | apply st_cap | apply st_max | apply st_min | apply st_ixv | apply st_mkf); intro k' hk; simp [go_sem, thenR_ok, bin]; refine hk _ _ ?_; clear hk k'))
   | ((with_reducible (first | apply tk_bin | apply tk_ext | apply tk_len | apply tk_un)); (· intro w; simp [go_sem, bin]; rfl))
   | ((with_reducible apply sp_newr hs); (· kernel_rfl); intro g w hs))
  by_cases h32 : 32 < l.length
  · rw [show decide ((32 : Int) < (l.length : Int)) = true by simp; omega]
    repeat (first
     | (with_reducible (first | refine st_lens ?_ | refine st_eqls ?_ | refine st_nels ?_ | refine tk_eqls ?_ | refine tk_nels ?_ | refine mv.mk ?_ | refine nk_p ?_ | refine gdT_i ?_ | refine gdT_ft ?_ | refine gdT_tf ?_ | refine gdT_u ?_ | refine gd_u ?_ | refine gd_ft ?_ | refine gd_tf ?_ | refine gd_i ?_ | refine pk_t ?_ | refine pk_f ?_ | refine br_t ?_ | refine br_f ?_ | refine sp_boxa hs fun g w hs => ?_))
     | (with_reducible ((first | apply st_bin | apply st_ext | apply st_len | apply st_un | apply st_conv | apply st_mki | apply st_fld | apply st_cap | apply st_max | apply st_min | apply st_ixv | apply st_mkf); intro k' hk; simp [go_sem, thenR_ok, bin]; refine hk _ _ ?_; clear hk k'))
     | ((with_reducible (first | apply tk_bin | apply tk_ext | apply tk_len | apply tk_un)); (· intro w; simp [go_sem, bin]; rfl))
     | ((with_reducible apply sp_newr hs); (· kernel_rfl); intro g w hs))
    exact ⟨by rw [checkSet, if_pos (.inr h32)], hs⟩
  rw [show decide ((32 : Int) < (l.length : Int)) = false by simp; omega]
  repeat (first
   | (with_reducible (first | refine st_lens ?_ | refine st_eqls ?_ | refine st_nels ?_ | refine tk_eqls ?_ | refine tk_nels ?_ | refine mv.mk ?_ | refine nk_p ?_ | refine gdT_i ?_ | refine gdT_ft ?_ | refine gdT_tf ?_ | refine gdT_u ?_ | refine gd_u ?_ | refine gd_ft ?_ | refine gd_tf ?_ | refine gd_i ?_ | refine pk_t ?_ | refine pk_f ?_ | refine br_t ?_ | refine br_f ?_ | refine sp_boxa hs fun g w hs => ?_))
   | (with_reducible ((first | apply st_bin | apply st_ext | apply st_len | apply st_un | apply st_conv | apply st_mki | apply st_fld | apply st_cap | apply st_max | apply st_min | apply st_ixv | apply st_mkf); intro k' hk; simp [go_sem, thenR_ok, bin]; refine hk _ _ ?_; clear hk k'))
   | ((with_reducible (first | apply tk_bin | apply tk_ext | apply tk_len | apply tk_un)); (· intro w; simp [go_sem, bin]; rfl))
   | ((with_reducible apply sp_newr hs); (· kernel_rfl); intro g w hs))
  refine lp_by (fun us w' => ∃ (i : Nat) (sum : Int) (y : Value), us = [.int .i64 0, .int .i64 sum, .int .i64 i, y] ∧ i ≤ l.length ∧ 0 ≤ sum ∧ sum ≤ i * 1099511627776 ∧ setLeft l i = (if sum ≤ 1099511627776 then some (1099511627776 - sum) else none) ∧ Sep b w' L) (fun us _ => match us with | [_, _, .int _ m, _] => l.length - m.toNat | _ => 0) ⟨0, 0, _, rfl, Nat.zero_le _, by decide, by simp, rfl, hs⟩ ?_
  clear hs
  rintro x w ⟨i, sum, y, hx, hi, hs0, hs1, hsl, hs⟩
  simp only [List.cons.injEq, and_true] at hx
  simp only [hx.1, hx.2.1, hx.2.2.1]
  clear hx
  repeat with_reducible refine mv.mk ?_
  refine st_of (hlen w) ?_
  repeat (first
   | (with_reducible (first | refine st_lens ?_ | refine st_eqls ?_ | refine st_nels ?_ | refine tk_eqls ?_ | refine tk_nels ?_ | refine mv.mk ?_ | refine nk_p ?_ | refine gdT_i ?_ | refine gdT_ft ?_ | refine gdT_tf ?_ | refine gdT_u ?_ | refine gd_u ?_ | refine gd_ft ?_ | refine gd_tf ?_ | refine gd_i ?_ | refine pk_t ?_ | refine pk_f ?_ | refine br_t ?_ | refine br_f ?_ | refine sp_boxa hs fun g w hs => ?_))
   | (with_reducible ((first | apply st_bin | apply st_ext | apply st_len | apply st_un | apply st_conv | apply st_mki | apply st_fld | apply st_cap | apply st_max | apply st_min | apply st_ixv | apply st_mkf); intro k' hk; simp [go_sem, thenR_ok, bin]; refine hk _ _ ?_; clear hk k'))
   | ((with_reducible (first | apply tk_bin | apply tk_ext | apply tk_len | apply tk_un)); (· intro w; simp [go_sem, bin]; rfl))
   | ((with_reducible apply sp_newr hs); (· kernel_rfl); intro g w hs))
  refine br_split (fun hq => ?_) (fun hq => ?_)
  · have hi' : i < l.length := by have := of_decide_eq_true hq; omega
    obtain ⟨g1, o1, xs, hr1, hl1, hs⟩ := hs.el hm tVals i hi'
    obtain ⟨rfl, hok⟩ := vali_of hs (.tl .hd)
    have hkl := u8s_len hok.key
    repeat with_reducible refine mv.mk ?_
    refine st_of (hr1 .i64 w) ?_
    refine vali.l0 hs .rng ?_
    refine cl (isthmusref11_Named hs (hnm _ (List.getElem_mem hi'))) ?_
    rintro _ w ⟨rfl, hs⟩
    cases h1 : namedB l[i].name with
    | false =>
      repeat (first
       | (with_reducible (first | refine st_lens ?_ | refine st_eqls ?_ | refine st_nels ?_ | refine tk_eqls ?_ | refine tk_nels ?_ | refine mv.mk ?_ | refine nk_p ?_ | refine gdT_i ?_ | refine gdT_ft ?_ | refine gdT_tf ?_ | refine gdT_u ?_ | refine gd_u ?_ | refine gd_ft ?_ | refine gd_tf ?_ | refine gd_i ?_ | refine pk_t ?_ | refine pk_f ?_ | refine br_t ?_ | refine br_f ?_ | refine sp_boxa hs fun g w hs => ?_))
       | (with_reducible ((first | apply st_bin | apply st_ext | apply st_len | apply st_un | apply st_conv | apply st_mki | apply st_fld | apply st_cap | apply st_max | apply st_min | apply st_ixv | apply st_mkf); intro k' hk; simp [go_sem, thenR_ok, bin]; refine hk _ _ ?_; clear hk k'))
       | ((with_reducible (first | apply tk_bin | apply tk_ext | apply tk_len | apply tk_un)); (· intro w; simp [go_sem, bin]; rfl))
       | ((with_reducible apply sp_newr hs); (· kernel_rfl); intro g w hs))
      exact ⟨by rw [checkSet_bad hi' (setLeft_bad hi' (.inl h1))], (hs.drop .hd).drop .hd⟩
    | true =>
    refine st_un fun k' hk => ?_; simp [go_sem, thenR_ok]; refine hk _ _ ?_; clear hk k'
    repeat with_reducible refine mv.mk ?_
    refine gd_i ?_
    repeat with_reducible refine mv.mk ?_
    refine gd_i ?_
    repeat with_reducible refine mv.mk ?_
    refine gd_i ?_
    refine st_of (hr1 .i64 w) ?_
    refine gd_i ?_
    refine vali.a2 ?_
    refine gd_i ?_
    refine vali.r2 hs .rng hkl ?_
    repeat (first
     | (with_reducible (first | refine st_lens ?_ | refine st_eqls ?_ | refine st_nels ?_ | refine tk_eqls ?_ | refine tk_nels ?_ | refine mv.mk ?_ | refine nk_p ?_ | refine gdT_i ?_ | refine gdT_ft ?_ | refine gdT_tf ?_ | refine gdT_u ?_ | refine gd_u ?_ | refine gd_ft ?_ | refine gd_tf ?_ | refine gd_i ?_ | refine pk_t ?_ | refine pk_f ?_ | refine br_t ?_ | refine br_f ?_ | refine sp_boxa hs fun g w hs => ?_))
     | (with_reducible ((first | apply st_bin | apply st_ext | apply st_len | apply st_un | apply st_conv | apply st_mki | apply st_fld | apply st_cap | apply st_max | apply st_min | apply st_ixv | apply st_mkf); intro k' hk; simp [go_sem, thenR_ok, bin]; refine hk _ _ ?_; clear hk k'))
     | ((with_reducible (first | apply tk_bin | apply tk_ext | apply tk_len | apply tk_un)); (· intro w; simp [go_sem, bin]; rfl))
     | ((with_reducible apply sp_newr hs); (· kernel_rfl); intro g w hs))
    by_cases h2 : l[i].power < 1
    · rw [show decide (l[i].power < 1) = true by simpa using h2]
      repeat (first
       | (with_reducible (first | refine st_lens ?_ | refine st_eqls ?_ | refine st_nels ?_ | refine tk_eqls ?_ | refine tk_nels ?_ | refine mv.mk ?_ | refine nk_p ?_ | refine gdT_i ?_ | refine gdT_ft ?_ | refine gdT_tf ?_ | refine gdT_u ?_ | refine gd_u ?_ | refine gd_ft ?_ | refine gd_tf ?_ | refine gd_i ?_ | refine pk_t ?_ | refine pk_f ?_ | refine br_t ?_ | refine br_f ?_ | refine sp_boxa hs fun g w hs => ?_))
       | (with_reducible ((first | apply st_bin | apply st_ext | apply st_len | apply st_un | apply st_conv | apply st_mki | apply st_fld | apply st_cap | apply st_max | apply st_min | apply st_ixv | apply st_mkf); intro k' hk; simp [go_sem, thenR_ok, bin]; refine hk _ _ ?_; clear hk k'))
       | ((with_reducible (first | apply tk_bin | apply tk_ext | apply tk_len | apply tk_un)); (· intro w; simp [go_sem, bin]; rfl))
       | ((with_reducible apply sp_newr hs); (· kernel_rfl); intro g w hs))
      exact ⟨by rw [checkSet_bad hi' (setLeft_bad hi' (.inr (.inr (.inl h2))))], (hs.drop .hd).drop .hd⟩
    rw [show decide (l[i].power < 1) = false by simpa using h2]
    repeat with_reducible refine mv.mk ?_
    refine gd_i ?_
    repeat with_reducible refine mv.mk ?_
    refine gd_i ?_
    repeat with_reducible refine mv.mk ?_
    refine gd_i ?_
    refine st_of (hr1 .i64 w) ?_
    refine gd_i ?_
    refine vali.a2 ?_
    refine gd_i ?_
    refine vali.r2 hs .rng hkl ?_
    repeat (first
     | (with_reducible (first | refine st_lens ?_ | refine st_eqls ?_ | refine st_nels ?_ | refine tk_eqls ?_ | refine tk_nels ?_ | refine mv.mk ?_ | refine nk_p ?_ | refine gdT_i ?_ | refine gdT_ft ?_ | refine gdT_tf ?_ | refine gdT_u ?_ | refine gd_u ?_ | refine gd_ft ?_ | refine gd_tf ?_ | refine gd_i ?_ | refine pk_t ?_ | refine pk_f ?_ | refine br_t ?_ | refine br_f ?_ | refine sp_boxa hs fun g w hs => ?_))
     | (with_reducible ((first | apply st_bin | apply st_ext | apply st_len | apply st_un | apply st_conv | apply st_mki | apply st_fld | apply st_cap | apply st_max | apply st_min | apply st_ixv | apply st_mkf); intro k' hk; simp [go_sem, thenR_ok, bin]; refine hk _ _ ?_; clear hk k'))
     | ((with_reducible (first | apply tk_bin | apply tk_ext | apply tk_len | apply tk_un)); (· intro w; simp [go_sem, bin]; rfl))
     | ((with_reducible apply sp_newr hs); (· kernel_rfl); intro g w hs))
    by_cases h3 : 1099511627776 < l[i].power
    · rw [show decide (1099511627776 < l[i].power) = true by simpa using h3]
      repeat (first
       | (with_reducible (first | refine st_lens ?_ | refine st_eqls ?_ | refine st_nels ?_ | refine tk_eqls ?_ | refine tk_nels ?_ | refine mv.mk ?_ | refine nk_p ?_ | refine gdT_i ?_ | refine gdT_ft ?_ | refine gdT_tf ?_ | refine gdT_u ?_ | refine gd_u ?_ | refine gd_ft ?_ | refine gd_tf ?_ | refine gd_i ?_ | refine pk_t ?_ | refine pk_f ?_ | refine br_t ?_ | refine br_f ?_ | refine sp_boxa hs fun g w hs => ?_))
       | (with_reducible ((first | apply st_bin | apply st_ext | apply st_len | apply st_un | apply st_conv | apply st_mki | apply st_fld | apply st_cap | apply st_max | apply st_min | apply st_ixv | apply st_mkf); intro k' hk; simp [go_sem, thenR_ok, bin]; refine hk _ _ ?_; clear hk k'))
       | ((with_reducible (first | apply tk_bin | apply tk_ext | apply tk_len | apply tk_un)); (· intro w; simp [go_sem, bin]; rfl))
       | ((with_reducible apply sp_newr hs); (· kernel_rfl); intro g w hs))
      exact ⟨by rw [checkSet_bad hi' (setLeft_bad hi' (.inr (.inr (.inr h3))))], (hs.drop .hd).drop .hd⟩
    rw [show decide (1099511627776 < l[i].power) = false by simpa using h3]
    repeat (first
     | (with_reducible (first | refine st_lens ?_ | refine st_eqls ?_ | refine st_nels ?_ | refine tk_eqls ?_ | refine tk_nels ?_ | refine mv.mk ?_ | refine nk_p ?_ | refine gdT_i ?_ | refine gdT_ft ?_ | refine gdT_tf ?_ | refine gdT_u ?_ | refine gd_u ?_ | refine gd_ft ?_ | refine gd_tf ?_ | refine gd_i ?_ | refine pk_t ?_ | refine pk_f ?_ | refine br_t ?_ | refine br_f ?_ | refine sp_boxa hs fun g w hs => ?_))
     | (with_reducible ((first | apply st_bin | apply st_ext | apply st_len | apply st_un | apply st_conv | apply st_mki | apply st_fld | apply st_cap | apply st_max | apply st_min | apply st_ixv | apply st_mkf); intro k' hk; simp [go_sem, thenR_ok, bin]; refine hk _ _ ?_; clear hk k'))
     | ((with_reducible (first | apply tk_bin | apply tk_ext | apply tk_len | apply tk_un)); (· intro w; simp [go_sem, bin]; rfl))
     | ((with_reducible apply sp_newr hs); (· kernel_rfl); intro g w hs))
    refine lp_by (fun us w' => ∃ (k : Nat), us = [.int .i64 0, .int .i64 k] ∧ k ≤ i ∧ (∀ j (h : j < l.length), j < k → l[j].name ≠ l[i].name) ∧ Sep b w' L) (fun us _ => match us with | [_, .int _ m] => i - m.toNat | _ => 0) ⟨0, rfl, Nat.zero_le _, fun j h hj => absurd hj (Nat.not_lt_zero _), (hs.drop .hd).drop .hd⟩ ?_
    clear hs
    rintro x2 w ⟨k, hx, hk, hne, hs⟩
    simp only [List.cons.injEq, and_true] at hx
    simp only [hx.1, hx.2]
    clear hx
    repeat (first
     | (with_reducible (first | refine st_lens ?_ | refine st_eqls ?_ | refine st_nels ?_ | refine tk_eqls ?_ | refine tk_nels ?_ | refine mv.mk ?_ | refine nk_p ?_ | refine gdT_i ?_ | refine gdT_ft ?_ | refine gdT_tf ?_ | refine gdT_u ?_ | refine gd_u ?_ | refine gd_ft ?_ | refine gd_tf ?_ | refine gd_i ?_ | refine pk_t ?_ | refine pk_f ?_ | refine br_t ?_ | refine br_f ?_ | refine sp_boxa hs fun g w hs => ?_))
     | (with_reducible ((first | apply st_bin | apply st_ext | apply st_len | apply st_un | apply st_conv | apply st_mki | apply st_fld | apply st_cap | apply st_max | apply st_min | apply st_ixv | apply st_mkf); intro k' hk; simp [go_sem, thenR_ok, bin]; refine hk _ _ ?_; clear hk k'))
     | ((with_reducible (first | apply tk_bin | apply tk_ext | apply tk_len | apply tk_un)); (· intro w; simp [go_sem, bin]; rfl))
     | ((with_reducible apply sp_newr hs); (· kernel_rfl); intro g w hs))
    refine br_split (fun hq2 => ?_) (fun hq2 => ?_)
    · have hk' : k < i := by have := of_decide_eq_true hq2; omega
      obtain ⟨g2, o2, ys, hr2, hl2, hs⟩ := hs.el hm tVals k (by omega)
      obtain ⟨rfl, hok2⟩ := vali_of hs (.tl .hd)
      obtain ⟨g3, o3, zs, hr3, hl3, hs⟩ := hs.el (.tl (.tl hm)) tVals i hi'
      obtain ⟨rfl, hok3⟩ := vali_of hs (.tl .hd)
      have hS : ∀ w', w' = w.drew → Mayr _ w' := fun _ e => e ▸ hs.drew.mayr Sbl.all
      repeat with_reducible refine mv.mk ?_
      refine tk_run (hr2 .i64) ?_
      refine vali.k0 hS (.tl (.tl .rng)) ?_
      repeat with_reducible refine mv.mk ?_
      refine tk_run (hr3 .i64) ?_
      refine vali.k0 hS .rng ?_
      repeat (first
       | (with_reducible (first | refine st_lens ?_ | refine st_eqls ?_ | refine st_nels ?_ | refine tk_eqls ?_ | refine tk_nels ?_ | refine mv.mk ?_ | refine nk_p ?_ | refine gdT_i ?_ | refine gdT_ft ?_ | refine gdT_tf ?_ | refine gdT_u ?_ | refine gd_u ?_ | refine gd_ft ?_ | refine gd_tf ?_ | refine gd_i ?_ | refine pk_t ?_ | refine pk_f ?_ | refine br_t ?_ | refine br_f ?_ | refine sp_boxa hs fun g w hs => ?_))
       | (with_reducible ((first | apply st_bin | apply st_ext | apply st_len | apply st_un | apply st_conv | apply st_mki | apply st_fld | apply st_cap | apply st_max | apply st_min | apply st_ixv | apply st_mkf); intro k' hk; simp [go_sem, thenR_ok, bin]; refine hk _ _ ?_; clear hk k'))
       | ((with_reducible (first | apply tk_bin | apply tk_ext | apply tk_len | apply tk_un)); (· intro w; simp [go_sem, bin]; rfl))
       | ((with_reducible apply sp_newr hs); (· kernel_rfl); intro g w hs))
      by_cases h4 : l[k].name = l[i].name
      · rw [show decide (l[k].name = l[i].name) = true by simpa using h4]
        repeat (first
         | (with_reducible (first | refine st_lens ?_ | refine st_eqls ?_ | refine st_nels ?_ | refine tk_eqls ?_ | refine tk_nels ?_ | refine mv.mk ?_ | refine nk_p ?_ | refine gdT_i ?_ | refine gdT_ft ?_ | refine gdT_tf ?_ | refine gdT_u ?_ | refine gd_u ?_ | refine gd_ft ?_ | refine gd_tf ?_ | refine gd_i ?_ | refine pk_t ?_ | refine pk_f ?_ | refine br_t ?_ | refine br_f ?_ | refine sp_boxa hs fun g w hs => ?_))
         | (with_reducible ((first | apply st_bin | apply st_ext | apply st_len | apply st_un | apply st_conv | apply st_mki | apply st_fld | apply st_cap | apply st_max | apply st_min | apply st_ixv | apply st_mkf); intro k' hk; simp [go_sem, thenR_ok, bin]; refine hk _ _ ?_; clear hk k'))
         | ((with_reducible (first | apply tk_bin | apply tk_ext | apply tk_len | apply tk_un)); (· intro w; simp [go_sem, bin]; rfl))
         | ((with_reducible apply sp_newr hs); (· kernel_rfl); intro g w hs))
        refine ⟨?_, ((((hs.drew).drop .hd).drop .hd).drop .hd).drop .hd⟩
        rw [checkSet_bad hi' (setLeft_bad hi' (.inr (.inl ?_)))]
        refine List.any_eq_true.2 ⟨l[k], ?_, by simpa using h4⟩
        exact List.mem_iff_getElem.2 ⟨k, by rw [List.length_take]; omega, by rw [List.getElem_take]⟩
      rw [show decide (l[k].name = l[i].name) = false by simpa using h4]
      repeat (first
       | (with_reducible (first | refine st_lens ?_ | refine st_eqls ?_ | refine st_nels ?_ | refine tk_eqls ?_ | refine tk_nels ?_ | refine mv.mk ?_ | refine nk_p ?_ | refine gdT_i ?_ | refine gdT_ft ?_ | refine gdT_tf ?_ | refine gdT_u ?_ | refine gd_u ?_ | refine gd_ft ?_ | refine gd_tf ?_ | refine gd_i ?_ | refine pk_t ?_ | refine pk_f ?_ | refine br_t ?_ | refine br_f ?_ | refine sp_boxa hs fun g w hs => ?_))
       | (with_reducible ((first | apply st_bin | apply st_ext | apply st_len | apply st_un | apply st_conv | apply st_mki | apply st_fld | apply st_cap | apply st_max | apply st_min | apply st_ixv | apply st_mkf); intro k' hk; simp [go_sem, thenR_ok, bin]; refine hk _ _ ?_; clear hk k'))
       | ((with_reducible (first | apply tk_bin | apply tk_ext | apply tk_len | apply tk_un)); (· intro w; simp [go_sem, bin]; rfl))
       | ((with_reducible apply sp_newr hs); (· kernel_rfl); intro g w hs))
      rw [i64_succ (by omega)]
      refine ⟨⟨k + 1, rfl, by omega, fun j h hj => ?_, ((((hs.drew).drop .hd).drop .hd).drop .hd).drop .hd⟩, by simp; omega⟩
      rcases Nat.lt_or_ge j k with h5 | h5
      · exact hne j h h5
      · obtain rfl : j = k := by omega
        exact h4
    have hki : k = i := by have := of_decide_eq_false hq2; omega
    have hs2 := hs
    subst hki
    have hdup : (l.take k).any (fun x => decide (x.name = l[k].name)) = false := by
      rw [List.any_eq_false]
      intro x hx
      obtain ⟨j, hj, rfl⟩ := List.mem_iff_getElem.1 hx
      rw [List.length_take] at hj
      rw [List.getElem_take]
      simpa using hne j (by omega) (by omega)
    obtain ⟨g2, o2, ys, hr2, hl2, hs3⟩ := hs2.el hm tVals k hi'
    obtain ⟨rfl, hok2⟩ := vali_of hs3 (.tl .hd)
    repeat with_reducible refine mv.mk ?_
    refine st_of (hr2 .i64 _) ?_
    refine vali.l2 hs3 .rng (u8s_len hok2.key) ?_
    repeat (first
     | (with_reducible (first | refine st_lens ?_ | refine st_eqls ?_ | refine st_nels ?_ | refine tk_eqls ?_ | refine tk_nels ?_ | refine mv.mk ?_ | refine nk_p ?_ | refine gdT_i ?_ | refine gdT_ft ?_ | refine gdT_tf ?_ | refine gdT_u ?_ | refine gd_u ?_ | refine gd_ft ?_ | refine gd_tf ?_ | refine gd_i ?_ | refine pk_t ?_ | refine pk_f ?_ | refine br_t ?_ | refine br_f ?_ | refine sp_boxa hs fun g w hs => ?_))
     | (with_reducible ((first | apply st_bin | apply st_ext | apply st_len | apply st_un | apply st_conv | apply st_mki | apply st_fld | apply st_cap | apply st_max | apply st_min | apply st_ixv | apply st_mkf); intro k' hk; simp [go_sem, thenR_ok, bin]; refine hk _ _ ?_; clear hk k'))
     | ((with_reducible (first | apply tk_bin | apply tk_ext | apply tk_len | apply tk_un)); (· intro w; simp [go_sem, bin]; rfl))
     | ((with_reducible apply sp_newr hs); (· kernel_rfl); intro g w hs))
    have hk32 : (k : Int) ≤ 32 := by omega
    rw [i64_succ (by omega), i64_wrap (by omega) (by omega)]
    refine ⟨⟨k + 1, sum + l[k].power, _, rfl, hi', by omega, by omega, setLeft_sum hi' hsl h1 h2 hdup, hs2⟩, by simp; omega⟩
  obtain rfl : i = l.length := by have := of_decide_eq_false hq; omega
  repeat (first
   | (with_reducible (first | refine st_lens ?_ | refine st_eqls ?_ | refine st_nels ?_ | refine tk_eqls ?_ | refine tk_nels ?_ | refine mv.mk ?_ | refine nk_p ?_ | refine gdT_i ?_ | refine gdT_ft ?_ | refine gdT_tf ?_ | refine gdT_u ?_ | refine gd_u ?_ | refine gd_ft ?_ | refine gd_tf ?_ | refine gd_i ?_ | refine pk_t ?_ | refine pk_f ?_ | refine br_t ?_ | refine br_f ?_ | refine sp_boxa hs fun g w hs => ?_))
   | (with_reducible ((first | apply st_bin | apply st_ext | apply st_len | apply st_un | apply st_conv | apply st_mki | apply st_fld | apply st_cap | apply st_max | apply st_min | apply st_ixv | apply st_mkf); intro k' hk; simp [go_sem, thenR_ok, bin]; refine hk _ _ ?_; clear hk k'))
   | ((with_reducible (first | apply tk_bin | apply tk_ext | apply tk_len | apply tk_un)); (· intro w; simp [go_sem, bin]; rfl))
   | ((with_reducible apply sp_newr hs); (· kernel_rfl); intro g w hs))
  by_cases h4 : 1099511627776 < sum
  · rw [show decide (1099511627776 < sum) = true by simpa using h4]
    repeat (first
     | (with_reducible (first | refine st_lens ?_ | refine st_eqls ?_ | refine st_nels ?_ | refine tk_eqls ?_ | refine tk_nels ?_ | refine mv.mk ?_ | refine nk_p ?_ | refine gdT_i ?_ | refine gdT_ft ?_ | refine gdT_tf ?_ | refine gdT_u ?_ | refine gd_u ?_ | refine gd_ft ?_ | refine gd_tf ?_ | refine gd_i ?_ | refine pk_t ?_ | refine pk_f ?_ | refine br_t ?_ | refine br_f ?_ | refine sp_boxa hs fun g w hs => ?_))
     | (with_reducible ((first | apply st_bin | apply st_ext | apply st_len | apply st_un | apply st_conv | apply st_mki | apply st_fld | apply st_cap | apply st_max | apply st_min | apply st_ixv | apply st_mkf); intro k' hk; simp [go_sem, thenR_ok, bin]; refine hk _ _ ?_; clear hk k'))
     | ((with_reducible (first | apply tk_bin | apply tk_ext | apply tk_len | apply tk_un)); (· intro w; simp [go_sem, bin]; rfl))
     | ((with_reducible apply sp_newr hs); (· kernel_rfl); intro g w hs))
    refine ⟨?_, hs⟩
    rw [checkSet, if_neg (by omega), hsl, if_neg (show ¬ sum ≤ 1099511627776 by omega)]
    rfl
  · rw [show decide (1099511627776 < sum) = false by simpa using h4]
    repeat (first
     | (with_reducible (first | refine st_lens ?_ | refine st_eqls ?_ | refine st_nels ?_ | refine tk_eqls ?_ | refine tk_nels ?_ | refine mv.mk ?_ | refine nk_p ?_ | refine gdT_i ?_ | refine gdT_ft ?_ | refine gdT_tf ?_ | refine gdT_u ?_ | refine gd_u ?_ | refine gd_ft ?_ | refine gd_tf ?_ | refine gd_i ?_ | refine pk_t ?_ | refine pk_f ?_ | refine br_t ?_ | refine br_f ?_ | refine sp_boxa hs fun g w hs => ?_))
     | (with_reducible ((first | apply st_bin | apply st_ext | apply st_len | apply st_un | apply st_conv | apply st_mki | apply st_fld | apply st_cap | apply st_max | apply st_min | apply st_ixv | apply st_mkf); intro k' hk; simp [go_sem, thenR_ok, bin]; refine hk _ _ ?_; clear hk k'))
     | ((with_reducible (first | apply tk_bin | apply tk_ext | apply tk_len | apply tk_un)); (· intro w; simp [go_sem, bin]; rfl))
     | ((with_reducible apply sp_newr hs); (· kernel_rfl); intro g w hs))
    refine ⟨?_, hs⟩
    rw [checkSet, if_neg (by omega), hsl, if_pos (show sum ≤ 1099511627776 by omega)]
    rfl
end
end Go.Proofs.YtlfelmikcdmkhaaGreatDoor
