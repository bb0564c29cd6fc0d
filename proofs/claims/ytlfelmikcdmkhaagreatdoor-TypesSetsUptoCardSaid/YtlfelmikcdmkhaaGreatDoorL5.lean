/- Layer 11's law TypesSets, walked. -/
import Derived.Test.YtlfelmikcdmkhaaGreatDoorS2
set_option linter.unusedVariables false
set_option linter.unusedSimpArgs false
set_option linter.unusedSectionVars false
namespace Go.Proofs.YtlfelmikcdmkhaaGreatDoor
open Go Go.Isk Go.RowKit
set_option maxRecDepth 20000
section
variable {b : Base} {w : World} {L R : List It} {g : Nat} {v sv : Value} {cs : List Value} {l : List Validator} {bs : Bytes}
theorem vali_ne {cs ds : List Value} {x : Validator} (hc : ValiIs cs x) (hd : ValiIs ds x) (hl : x.name.length ≤ 1099511627776) (o1 o2 : Operand) (w : World) : (bin .neq T.api_Validator o1 o2 (.agg cs.toArray) (.agg ds.toArray)).run Tryz.prog w = .ok (.bool false) w := by
  obtain ⟨rfl, hok⟩ := hc
  obtain ⟨rfl, _⟩ := hd
  have hf : fits (none :: (List.replicate 32 (some .u8) ++ [some .i64])) (valiC (str x.name) (u8s x.key) (.int .i64 x.power)) :=
    ⟨fit_str hl, fits.app (u8s_fit hok.key) (fits_one (fit_i64 hok.power))⟩
  obtain ⟨r, h1, h2, h3⟩ := eql_agg (P := Tryz.prog) (t := T.api_Validator) (by kernel_rfl) (by kernel_rfl) (by kernel_rfl) hf hf
  rw [h3, h1.2 rfl]
  rfl
theorem sum_mem : ∀ {l : List Validator} {v : Validator}, v ∈ l → v.name.length + 1 ≤ (l.map fun v => v.name.length + 1).sum
  | a :: l, v, h => by
    simp only [List.map_cons, List.sum_cons]
    rcases List.mem_cons.1 h with rfl | h
    · omega
    · have := sum_mem h; omega
theorem sum_len : ∀ (l : List Validator), l.length ≤ (l.map fun v => v.name.length + 1).sum
  | [] => by simp
  | a :: l => by
    have := sum_len l
    simp only [List.map_cons, List.sum_cons, List.length_cons]
    omega
theorem encSet_len (hok : ∀ v ∈ l, v.ok) (hb : (l.map fun v => v.name.length + 1).sum ≤ 1048576) : (encSet l).length ≤ 110000000 := by
  have h4 : ∀ l : List Validator, (∀ v ∈ l, v.ok) → (l.map fun v => v.name.length + 1).sum ≤ 1048576 → ((l.map encValidator).flatten).length ≤ 100 * (l.map fun v => v.name.length + 1).sum := by
    intro l
    induction l with
    | nil => simp
    | cons v l ih =>
      intro hv hs
      simp only [List.map_cons, List.sum_cons] at hs
      have h5 := encVal_len (hv v (by simp)) (by omega)
      have h6 := ih (fun x hx => hv x (by simp [hx])) (by omega)
      simp only [List.map_cons, List.flatten_cons, List.length_append, List.sum_cons]
      have h7 : (encValidator v).length ≤ 100 * (v.name.length + 1) := by
        have := encVal_len (hv v (by simp)) (by omega)
        omega
      omega
  have h5 := h4 l hok hb
  have h6 := sum_len l
  have h7 := encU_len10 (n := l.length) (by omega)
  simp only [encSet, encL, List.length_append]
  omega
set_option maxHeartbeats 4000000 in
theorem isthmuslaw11_TypesSets (hs : Sep b w L) (hT : Ins L errT.it) (hR : Ins L rndF.it) (hm : Ins L (listF valiF 34 sv l).it) (hv : Ins L (byF v bs).it) (hb : (l.map fun v => v.name.length + 1).sum ≤ 1048576) (hbs : bs.length ≤ 2147483648) :
    C Tryz.prog N.isthmuslaw11_TypesSets #[sv, v] w fun r w' => r = .bool true ∧ Sep b w' L := by
  have hll := sum_len l
  obtain ⟨xss, q1, q2, q3⟩ := hs.get hm
  have hok : ∀ x ∈ l, x.ok := fun x hx => by
    obtain ⟨i, hi, rfl⟩ := List.mem_iff_getElem.1 hx
    have h : ValiIs _ _ := q1.2 i hi _ (List.getElem?_eq_getElem (by rw [q1.1]; exact hi))
    obtain ⟨_, h⟩ := h
    exact h
  have hone : ∀ u ∈ xss.flatten, u.oneCell' = true := fun u hu => by
    obtain ⟨x, hx, hux⟩ := List.mem_flatten.1 hu
    obtain ⟨i, hi, rfl⟩ := List.mem_iff_getElem.1 hx
    exact (valiF_ok.ok (q1.2 i (by rw [← q1.1]; exact hi) _ (List.getElem?_eq_getElem hi))).2 u hux
  have hnm : ∀ x ∈ l, x.name.length ≤ 1048576 := fun x hx => by have := sum_mem hx; omega
  have hel := encSet_len hok hb
  refine C.isthmuslaw11_TypesSets ?_
  unfold F.isthmuslaw11_TypesSets
  repeat with_reducible refine mv.mk ?_
  replace hs := (hs.fact (f := slF sv l.length 34 xss.flatten) q3).row0 T.api_Validator 34
  refine sp_app hs .hd tVals (x := sv) (ys := xss.flatten) (m := l.length) .sl hone (by omega) (by omega) fun v2 w hs => ?_
  rw [Nat.zero_add, List.nil_append] at hs
  replace hs := hs.rowF .hd
  replace hs := hs.fact (f := listF valiF 34 v2 l) ⟨xss, ⟨q1.1, fun i hi x hx => q1.2 i hi x hx⟩, q2, hs.get (I := (slF v2 l.length 34 xss.flatten).it) .hd⟩
  repeat with_reducible refine mv.mk ?_
  refine cl (types_DecodeSet hs (v := v) (l := bs) (.tl (.tl (.tl hv))) hbs) ?_; rintro _ w ⟨x1, e1, rfl, hs⟩; repeat with_reducible refine mv.mk ?_
  repeat (first
   | (with_reducible (first | refine st_lens ?_ | refine st_eqls ?_ | refine st_nels ?_ | refine tk_eqls ?_ | refine tk_nels ?_ | refine mv.mk ?_ | refine nk_p ?_ | refine gdT_i ?_ | refine gdT_ft ?_ | refine gdT_tf ?_ | refine gdT_u ?_ | refine gd_u ?_ | refine gd_ft ?_ | refine gd_tf ?_ | refine gd_i ?_ | refine pk_t ?_ | refine pk_f ?_ | refine br_t ?_ | refine br_f ?_ | refine sp_boxa hs fun g w hs => ?_))
   | (with_reducible ((first | apply st_bin | apply st_ext | apply st_len | apply st_un | apply st_conv | apply st_mki | apply st_fld | apply st_cap | apply st_max | apply st_min | apply st_ixv | apply st_mkf); intro k' hk; simp [go_sem, thenR_ok, bin]; refine hk _ _ ?_; clear hk k'))
   | ((with_reducible (first | apply tk_bin | apply tk_ext | apply tk_len | apply tk_un)); (· intro w; simp [go_sem, bin]; rfl))
   | ((with_reducible apply sp_newr hs); (· kernel_rfl); intro g w hs))
  refine cl (isthmusref11_DecodeSet hs (v := v) (l := bs) (.tl (.tl (.tl (.tl (.tl hv))))) hbs) ?_; rintro _ w ⟨x2, rfl, hs⟩; repeat with_reducible refine mv.mk ?_
  repeat (first
   | (with_reducible (first | refine st_lens ?_ | refine st_eqls ?_ | refine st_nels ?_ | refine tk_eqls ?_ | refine tk_nels ?_ | refine mv.mk ?_ | refine nk_p ?_ | refine gdT_i ?_ | refine gdT_ft ?_ | refine gdT_tf ?_ | refine gdT_u ?_ | refine gd_u ?_ | refine gd_ft ?_ | refine gd_tf ?_ | refine gd_i ?_ | refine pk_t ?_ | refine pk_f ?_ | refine br_t ?_ | refine br_f ?_ | refine sp_boxa hs fun g w hs => ?_))
   | (with_reducible ((first | apply st_bin | apply st_ext | apply st_len | apply st_un | apply st_conv | apply st_mki | apply st_fld | apply st_cap | apply st_max | apply st_min | apply st_ixv | apply st_mkf); intro k' hk; simp [go_sem, thenR_ok, bin]; refine hk _ _ ?_; clear hk k'))
   | ((with_reducible (first | apply tk_bin | apply tk_ext | apply tk_len | apply tk_un)); (· intro w; simp [go_sem, bin]; rfl))
   | ((with_reducible apply sp_newr hs); (· kernel_rfl); intro g w hs))
  have hdl : (decN gSet [] bs).1.length ≤ 32 := decN_p (p := fun x : List Validator => x.length ≤ 32) (fun s => by unfold gSet; simp only []; rw [gList_len]; exact rC_most) (by decide)
  have hdn : ∀ x ∈ (decN gSet [] bs).1, x.name.length ≤ 64 := decN_p (p := fun l : List Validator => ∀ x ∈ l, x.name.length ≤ 64) (fun s => gList_all (p := fun x : Validator => x.name.length ≤ 64) (fun s => rB_len) _ _) (by simp)
  generalize hD : (decN gSet [] bs).1 = D at *
  generalize hE : (decN gSet [] bs).2 = E at *
  replace hs := hs.fact (f := errT) (hs.get (by repeat (first | exact hT | apply Ins.tl)))
  refine cl (isthmuslaw11_num hs .hd (e := e1) (n := E) (by repeat (first | with_reducible exact Ins.hd | with_reducible apply Ins.tl))) ?_
  rintro _ w ⟨rfl, hs⟩
  obtain ⟨A1, k1, rfl⟩ := hs.lst_len (F := valiF) (sz := 34) (sv := x1) (ls := D) (by repeat (first | with_reducible exact Lst.lst | with_reducible exact Lst.gr | with_reducible apply Lst.tl))
  obtain ⟨A2, k2, rfl⟩ := hs.lst_len (F := valiF) (sz := 34) (sv := x2) (ls := D) (by repeat (first | with_reducible exact Lst.lst | with_reducible exact Lst.gr | with_reducible apply Lst.tl))
  repeat (first
   | (with_reducible (first | refine st_lens ?_ | refine st_eqls ?_ | refine st_nels ?_ | refine tk_eqls ?_ | refine tk_nels ?_ | refine mv.mk ?_ | refine nk_p ?_ | refine gdT_i ?_ | refine gdT_ft ?_ | refine gdT_tf ?_ | refine gdT_u ?_ | refine gd_u ?_ | refine gd_ft ?_ | refine gd_tf ?_ | refine gd_i ?_ | refine pk_t ?_ | refine pk_f ?_ | refine br_t ?_ | refine br_f ?_ | refine sp_boxa hs fun g w hs => ?_))
   | (with_reducible ((first | apply st_bin | apply st_ext | apply st_len | apply st_un | apply st_conv | apply st_mki | apply st_fld | apply st_cap | apply st_max | apply st_min | apply st_ixv | apply st_mkf); intro k' hk; simp [go_sem, thenR_ok, bin]; refine hk _ _ ?_; clear hk k'))
   | ((with_reducible (first | apply tk_bin | apply tk_ext | apply tk_len | apply tk_un)); (· intro w; simp [go_sem, bin]; rfl))
   | ((with_reducible apply sp_newr hs); (· kernel_rfl); intro g w hs))
  refine lp_by (fun us w' => ∃ (i : Nat), us = [.bool false, .int .i64 i] ∧ i ≤ D.length ∧ Sep b w' _) (fun us _ => match us with | [_, .int _ m] => D.length - m.toNat | _ => 0) ⟨0, rfl, Nat.zero_le _, hs⟩ ?_
  clear hs
  rintro x w ⟨i, hx, hi, hs⟩
  simp only [List.cons.injEq, and_true] at hx
  simp only [hx.1, hx.2]
  clear hx
  repeat (first
   | (with_reducible (first | refine st_lens ?_ | refine st_eqls ?_ | refine st_nels ?_ | refine tk_eqls ?_ | refine tk_nels ?_ | refine mv.mk ?_ | refine nk_p ?_ | refine gdT_i ?_ | refine gdT_ft ?_ | refine gdT_tf ?_ | refine gdT_u ?_ | refine gd_u ?_ | refine gd_ft ?_ | refine gd_tf ?_ | refine gd_i ?_ | refine pk_t ?_ | refine pk_f ?_ | refine br_t ?_ | refine br_f ?_ | refine sp_boxa hs fun g w hs => ?_))
   | (with_reducible ((first | apply st_bin | apply st_ext | apply st_len | apply st_un | apply st_conv | apply st_mki | apply st_fld | apply st_cap | apply st_max | apply st_min | apply st_ixv | apply st_mkf); intro k' hk; simp [go_sem, thenR_ok, bin]; refine hk _ _ ?_; clear hk k'))
   | ((with_reducible (first | apply tk_bin | apply tk_ext | apply tk_len | apply tk_un)); (· intro w; simp [go_sem, bin]; rfl))
   | ((with_reducible apply sp_newr hs); (· kernel_rfl); intro g w hs))
  refine br_split (fun hq => ?_) (fun hq => ?_)
  · have hi' : i < D.length := by have := of_decide_eq_true hq; omega
    obtain ⟨g1, o1, xs, hr1, hl1, hs1⟩ := hs.el (F := valiF) (sv := .slice A1 D.length k1) (ls := D) (by repeat (first | with_reducible exact Ins.hd | with_reducible apply Ins.tl)) tVals i hi'
    obtain ⟨g2, o2, ys, hr2, hl2, hs2⟩ := hs1.el (F := valiF) (sv := .slice A2 D.length k2) (ls := D) (by repeat (first | with_reducible exact Ins.hd | with_reducible apply Ins.tl)) tVals i hi'
    have hS : ∀ w', w' = w.drew → Mayr _ w' := fun _ e => e ▸ hs2.drew.mayr Sbl.all
    have hc1 : ValiIs xs D[i] := hs2.get (I := (valiF xs D[i]).it) (by repeat (first | with_reducible exact Ins.hd | with_reducible apply Ins.tl))
    have hc2 : ValiIs ys D[i] := hs2.get (I := (valiF ys D[i]).it) (by repeat (first | with_reducible exact Ins.hd | with_reducible apply Ins.tl))
    repeat with_reducible refine mv.mk ?_
    refine tk_run (hr1 .i64) (tk_ldn hS (by repeat (first | with_reducible exact Rng.blk | with_reducible exact Rng.rng | with_reducible apply Rng.tl)) (by kernel_rfl) hl1 ?_)
    repeat with_reducible refine mv.mk ?_
    refine tk_run (hr2 .i64) (tk_ldn hS (by repeat (first | with_reducible exact Rng.blk | with_reducible exact Rng.rng | with_reducible apply Rng.tl)) (by kernel_rfl) hl2 ?_)
    refine tk_run (vali_ne hc1 hc2 (by have := hdn _ (List.getElem_mem hi'); omega) _ _) ?_
    repeat (first
     | (with_reducible (first | refine st_lens ?_ | refine st_eqls ?_ | refine st_nels ?_ | refine tk_eqls ?_ | refine tk_nels ?_ | refine mv.mk ?_ | refine nk_p ?_ | refine gdT_i ?_ | refine gdT_ft ?_ | refine gdT_tf ?_ | refine gdT_u ?_ | refine gd_u ?_ | refine gd_ft ?_ | refine gd_tf ?_ | refine gd_i ?_ | refine pk_t ?_ | refine pk_f ?_ | refine br_t ?_ | refine br_f ?_ | refine sp_boxa hs fun g w hs => ?_))
     | (with_reducible ((first | apply st_bin | apply st_ext | apply st_len | apply st_un | apply st_conv | apply st_mki | apply st_fld | apply st_cap | apply st_max | apply st_min | apply st_ixv | apply st_mkf); intro k' hk; simp [go_sem, thenR_ok, bin]; refine hk _ _ ?_; clear hk k'))
     | ((with_reducible (first | apply tk_bin | apply tk_ext | apply tk_len | apply tk_un)); (· intro w; simp [go_sem, bin]; rfl))
     | ((with_reducible apply sp_newr hs); (· kernel_rfl); intro g w hs))
    rw [i64_succ (by omega)]
    exact ⟨⟨i + 1, rfl, hi', hs.drew⟩, by simp; omega⟩
  replace hs := hs.drew
  refine dr_can (R := []) hs .nil ?_
  repeat with_reducible refine mv.mk ?_
  refine cl (types_CheckSet hs (l := l) (by repeat (first | with_reducible exact Ins.hd | with_reducible apply Ins.tl)) (by omega) (fun x hx => Nat.le_trans (hnm x hx) (by decide))) ?_
  rintro e w hs
  refine ⟨hs.mayr .nil, ?_⟩
  refine cl (isthmuslaw11_num hs (by repeat (first | with_reducible exact Ins.hd | with_reducible apply Ins.tl)) (e := e) (n := checkSet l) .hd) ?_
  rintro _ w ⟨rfl, hs⟩
  refine ⟨hs.mayr .nil, ?_⟩
  replace hs := hs.fact (f := listF valiF 34 sv l) (hs.get (by repeat (first | exact hm | apply Ins.tl)))
  replace hs := hs.fact (f := rndF) (hs.get (by repeat (first | exact hR | apply Ins.tl)))
  refine cl (isthmusref11_CheckSet hs (sv := sv) (l := l) (.tl .hd) (by omega) (fun x hx => Nat.le_trans (hnm x hx) (by decide))) ?_
  rintro _ w ⟨rfl, hs⟩
  refine ⟨hs.mayr .nil, ?_⟩
  repeat (first
   | (with_reducible (first | refine st_lens ?_ | refine st_eqls ?_ | refine st_nels ?_ | refine tk_eqls ?_ | refine tk_nels ?_ | refine mv.mk ?_ | refine nk_p ?_ | refine gdT_i ?_ | refine gdT_ft ?_ | refine gdT_tf ?_ | refine gdT_u ?_ | refine gd_u ?_ | refine gd_ft ?_ | refine gd_tf ?_ | refine gd_i ?_ | refine pk_t ?_ | refine pk_f ?_ | refine br_t ?_ | refine br_f ?_ | refine sp_boxa hs fun g w hs => ?_))
   | (with_reducible ((first | apply st_bin | apply st_ext | apply st_len | apply st_un | apply st_conv | apply st_mki | apply st_fld | apply st_cap | apply st_max | apply st_min | apply st_ixv | apply st_mkf); intro k' hk; simp [go_sem, thenR_ok, bin]; refine hk _ _ ?_; clear hk k'))
   | ((with_reducible (first | apply tk_bin | apply tk_ext | apply tk_len | apply tk_un)); (· intro w; simp [go_sem, bin]; rfl))
   | ((with_reducible apply sp_newr hs); (· kernel_rfl); intro g w hs))
  refine cl (types_Total hs (sv := v2) (l := l) (by repeat (first | with_reducible exact Lst.lst | with_reducible exact Lst.gr | with_reducible apply Lst.tl)) (by omega)) ?_
  rintro _ w ⟨rfl, hs⟩
  refine ⟨hs.mayr .nil, ?_⟩
  repeat (first
   | (with_reducible (first | refine st_lens ?_ | refine st_eqls ?_ | refine st_nels ?_ | refine tk_eqls ?_ | refine tk_nels ?_ | refine mv.mk ?_ | refine nk_p ?_ | refine gdT_i ?_ | refine gdT_ft ?_ | refine gdT_tf ?_ | refine gdT_u ?_ | refine gd_u ?_ | refine gd_ft ?_ | refine gd_tf ?_ | refine gd_i ?_ | refine pk_t ?_ | refine pk_f ?_ | refine br_t ?_ | refine br_f ?_ | refine sp_boxa hs fun g w hs => ?_))
   | (with_reducible ((first | apply st_bin | apply st_ext | apply st_len | apply st_un | apply st_conv | apply st_mki | apply st_fld | apply st_cap | apply st_max | apply st_min | apply st_ixv | apply st_mkf); intro k' hk; simp [go_sem, thenR_ok, bin]; refine hk _ _ ?_; clear hk k'))
   | ((with_reducible (first | apply tk_bin | apply tk_ext | apply tk_len | apply tk_un)); (· intro w; simp [go_sem, bin]; rfl))
   | ((with_reducible apply sp_newr hs); (· kernel_rfl); intro g w hs))
  refine cl (isthmusref11_Total hs (sv := sv) (l := l) (.tl .hd) (by omega)) ?_
  rintro _ w ⟨rfl, hs⟩
  refine ⟨hs.mayr .nil, ?_⟩
  repeat (first
   | (with_reducible (first | refine st_lens ?_ | refine st_eqls ?_ | refine st_nels ?_ | refine tk_eqls ?_ | refine tk_nels ?_ | refine mv.mk ?_ | refine nk_p ?_ | refine gdT_i ?_ | refine gdT_ft ?_ | refine gdT_tf ?_ | refine gdT_u ?_ | refine gd_u ?_ | refine gd_ft ?_ | refine gd_tf ?_ | refine gd_i ?_ | refine pk_t ?_ | refine pk_f ?_ | refine br_t ?_ | refine br_f ?_ | refine sp_boxa hs fun g w hs => ?_))
   | (with_reducible ((first | apply st_bin | apply st_ext | apply st_len | apply st_un | apply st_conv | apply st_mki | apply st_fld | apply st_cap | apply st_max | apply st_min | apply st_ixv | apply st_mkf); intro k' hk; simp [go_sem, thenR_ok, bin]; refine hk _ _ ?_; clear hk k'))
   | ((with_reducible (first | apply tk_bin | apply tk_ext | apply tk_len | apply tk_un)); (· intro w; simp [go_sem, bin]; rfl))
   | ((with_reducible apply sp_newr hs); (· kernel_rfl); intro g w hs))
  refine cl (types_SetHash hs .hd (sv := v2) (l := l) (by repeat (first | with_reducible exact Ins.hd | with_reducible apply Ins.tl)) (by omega) (fun x hx => Nat.le_trans (hnm x hx) (by decide))) ?_
  rintro _ w ⟨rfl, hs⟩
  refine ⟨hs.mayr .nil, ?_⟩
  repeat (first
   | (with_reducible (first | refine st_lens ?_ | refine st_eqls ?_ | refine st_nels ?_ | refine tk_eqls ?_ | refine tk_nels ?_ | refine mv.mk ?_ | refine nk_p ?_ | refine gdT_i ?_ | refine gdT_ft ?_ | refine gdT_tf ?_ | refine gdT_u ?_ | refine gd_u ?_ | refine gd_ft ?_ | refine gd_tf ?_ | refine gd_i ?_ | refine pk_t ?_ | refine pk_f ?_ | refine br_t ?_ | refine br_f ?_ | refine sp_boxa hs fun g w hs => ?_))
   | (with_reducible ((first | apply st_bin | apply st_ext | apply st_len | apply st_un | apply st_conv | apply st_mki | apply st_fld | apply st_cap | apply st_max | apply st_min | apply st_ixv | apply st_mkf); intro k' hk; simp [go_sem, thenR_ok, bin]; refine hk _ _ ?_; clear hk k'))
   | ((with_reducible (first | apply tk_bin | apply tk_ext | apply tk_len | apply tk_un)); (· intro w; simp [go_sem, bin]; rfl))
   | ((with_reducible apply sp_newr hs); (· kernel_rfl); intro g w hs))
  refine cl (isthmusref11_SetHash hs (sv := sv) (l := l) (.tl .hd) (by omega) (fun x hx => Nat.le_trans (hnm x hx) (by decide))) ?_
  rintro _ w ⟨rfl, hs⟩
  refine ⟨hs.mayr .nil, ?_⟩
  have hsl : (setHashB l).length = 32 := rootB_len _ rfl fun x hx => by
    obtain ⟨v, _, rfl⟩ := List.mem_map.1 hx
    exact leafB_len _
  refine gdT_i ?_
  refine tk_run (hash_eq hsl hsl _ _) ?_
  simp only [decide_true]
  repeat (first
   | (with_reducible (first | refine st_lens ?_ | refine st_eqls ?_ | refine st_nels ?_ | refine tk_eqls ?_ | refine tk_nels ?_ | refine mv.mk ?_ | refine nk_p ?_ | refine gdT_i ?_ | refine gdT_ft ?_ | refine gdT_tf ?_ | refine gdT_u ?_ | refine gd_u ?_ | refine gd_ft ?_ | refine gd_tf ?_ | refine gd_i ?_ | refine pk_t ?_ | refine pk_f ?_ | refine br_t ?_ | refine br_f ?_ | refine sp_boxa hs fun g w hs => ?_))
   | (with_reducible ((first | apply st_bin | apply st_ext | apply st_len | apply st_un | apply st_conv | apply st_mki | apply st_fld | apply st_cap | apply st_max | apply st_min | apply st_ixv | apply st_mkf); intro k' hk; simp [go_sem, thenR_ok, bin]; refine hk _ _ ?_; clear hk k'))
   | ((with_reducible (first | apply tk_bin | apply tk_ext | apply tk_len | apply tk_un)); (· intro w; simp [go_sem, bin]; rfl))
   | ((with_reducible apply sp_newr hs); (· kernel_rfl); intro g w hs))
  have hli : ListIs ValiIs w.heap.size w v2 34 l := listS_is (hs.get (I := (listF valiF 34 v2 l).it) (by repeat (first | with_reducible exact Ins.hd | with_reducible apply Ins.tl))) fun _ _ h => h
  refine cl (types_EncodeSet hli (by omega) (by omega)) ?_
  rintro r1 w1 hN
  replace hs := newB_sep hs hN
  clear hli hN
  refine ⟨hs.mayr .nil, ?_⟩
  refine nS_can (R := [(byF r1 (encSet l)).it]) hs (by repeat (first | with_reducible exact Sbl.all | with_reducible exact Sbl.nil | refine Sbl.cons (by first | ((repeat (first | with_reducible exact Has.hd | with_reducible apply Has.tl)); done) | (repeat (first | exact Has.hd | with_reducible apply Has.tl))) ?_ | refine Sbl.drop ?_)) .nil ?_
  refine gdT_i ?_
  refine tk_text hid (l := encSet l) (by repeat (first | with_reducible exact Rds.sl | with_reducible exact Rds.byt | with_reducible exact Rds.row | with_reducible apply Rds.tl)) ?_
  repeat (first
   | (with_reducible (first | refine st_lens ?_ | refine st_eqls ?_ | refine st_nels ?_ | refine tk_eqls ?_ | refine tk_nels ?_ | refine mv.mk ?_ | refine nk_p ?_ | refine gdT_i ?_ | refine gdT_ft ?_ | refine gdT_tf ?_ | refine gdT_u ?_ | refine gd_u ?_ | refine gd_ft ?_ | refine gd_tf ?_ | refine gd_i ?_ | refine pk_t ?_ | refine pk_f ?_ | refine br_t ?_ | refine br_f ?_ | refine sp_boxa hs fun g w hs => ?_))
   | (with_reducible ((first | apply st_bin | apply st_ext | apply st_len | apply st_un | apply st_conv | apply st_mki | apply st_fld | apply st_cap | apply st_max | apply st_min | apply st_ixv | apply st_mkf); intro k' hk; simp [go_sem, thenR_ok, bin]; refine hk _ _ ?_; clear hk k'))
   | ((with_reducible (first | apply tk_bin | apply tk_ext | apply tk_len | apply tk_un)); (· intro w; simp [go_sem, bin]; rfl))
   | ((with_reducible apply sp_newr hs); (· kernel_rfl); intro g w hs))
  have hli : ListIs ValiIs _ w1 sv 34 l := listS_is (hs.get (I := (listF valiF 34 sv l).it) (by repeat (first | with_reducible exact Ins.hd | with_reducible apply Ins.tl))) fun _ _ h => h
  refine cl (isthmusref11_Set hli (by omega) (by omega)) ?_
  rintro r2 w2 hN
  replace hs := newB_sep hs hN
  refine ⟨hs.mayr (by repeat (first | with_reducible exact Sbl.all | with_reducible exact Sbl.nil | refine Sbl.cons (by first | ((repeat (first | with_reducible exact Has.hd | with_reducible apply Has.tl)); done) | (repeat (first | exact Has.hd | with_reducible apply Has.tl))) ?_ | refine Sbl.drop ?_)), ?_⟩
  refine nS_can (R := [(byF r2 (encSet l)).it, (byF r1 (encSet l)).it]) hs (by repeat (first | with_reducible exact Sbl.all | with_reducible exact Sbl.nil | refine Sbl.cons (by first | ((repeat (first | with_reducible exact Has.hd | with_reducible apply Has.tl)); done) | (repeat (first | exact Has.hd | with_reducible apply Has.tl))) ?_ | refine Sbl.drop ?_)) (.drop .all) ?_
  refine gdT_i ?_
  refine tk_text hid (l := encSet l) (by repeat (first | with_reducible exact Rds.sl | with_reducible exact Rds.byt | with_reducible exact Rds.row | with_reducible apply Rds.tl)) ?_
  repeat (first
   | (with_reducible (first | refine st_lens ?_ | refine st_eqls ?_ | refine st_nels ?_ | refine tk_eqls ?_ | refine tk_nels ?_ | refine mv.mk ?_ | refine nk_p ?_ | refine gdT_i ?_ | refine gdT_ft ?_ | refine gdT_tf ?_ | refine gdT_u ?_ | refine gd_u ?_ | refine gd_ft ?_ | refine gd_tf ?_ | refine gd_i ?_ | refine pk_t ?_ | refine pk_f ?_ | refine br_t ?_ | refine br_f ?_ | refine sp_boxa hs fun g w hs => ?_))
   | (with_reducible ((first | apply st_bin | apply st_ext | apply st_len | apply st_un | apply st_conv | apply st_mki | apply st_fld | apply st_cap | apply st_max | apply st_min | apply st_ixv | apply st_mkf); intro k' hk; simp [go_sem, thenR_ok, bin]; refine hk _ _ ?_; clear hk k'))
   | ((with_reducible (first | apply tk_bin | apply tk_ext | apply tk_len | apply tk_un)); (· intro w; simp [go_sem, bin]; rfl))
   | ((with_reducible apply sp_newr hs); (· kernel_rfl); intro g w hs))
  simp only [decide_true]
  repeat (first
   | (with_reducible (first | refine st_lens ?_ | refine st_eqls ?_ | refine st_nels ?_ | refine tk_eqls ?_ | refine tk_nels ?_ | refine mv.mk ?_ | refine nk_p ?_ | refine gdT_i ?_ | refine gdT_ft ?_ | refine gdT_tf ?_ | refine gdT_u ?_ | refine gd_u ?_ | refine gd_ft ?_ | refine gd_tf ?_ | refine gd_i ?_ | refine pk_t ?_ | refine pk_f ?_ | refine br_t ?_ | refine br_f ?_ | refine sp_boxa hs fun g w hs => ?_))
   | (with_reducible ((first | apply st_bin | apply st_ext | apply st_len | apply st_un | apply st_conv | apply st_mki | apply st_fld | apply st_cap | apply st_max | apply st_min | apply st_ixv | apply st_mkf); intro k' hk; simp [go_sem, thenR_ok, bin]; refine hk _ _ ?_; clear hk k'))
   | ((with_reducible (first | apply tk_bin | apply tk_ext | apply tk_len | apply tk_un)); (· intro w; simp [go_sem, bin]; rfl))
   | ((with_reducible apply sp_newr hs); (· kernel_rfl); intro g w hs))
  refine cl (isthmuslaw11_sure hs (by repeat (first | with_reducible exact Ins.hd | with_reducible apply Ins.tl))) ?_
  rintro _ w ⟨rfl, hs⟩
  refine ⟨hs.mayr (by repeat (first | with_reducible exact Sbl.all | with_reducible exact Sbl.nil | refine Sbl.cons (by first | ((repeat (first | with_reducible exact Has.hd | with_reducible apply Has.tl)); done) | (repeat (first | exact Has.hd | with_reducible apply Has.tl))) ?_ | refine Sbl.drop ?_)), ?_⟩
  repeat (first
   | (with_reducible (first | refine st_lens ?_ | refine st_eqls ?_ | refine st_nels ?_ | refine tk_eqls ?_ | refine tk_nels ?_ | refine mv.mk ?_ | refine nk_p ?_ | refine gdT_i ?_ | refine gdT_ft ?_ | refine gdT_tf ?_ | refine gdT_u ?_ | refine gd_u ?_ | refine gd_ft ?_ | refine gd_tf ?_ | refine gd_i ?_ | refine pk_t ?_ | refine pk_f ?_ | refine br_t ?_ | refine br_f ?_ | refine sp_boxa hs fun g w hs => ?_))
   | (with_reducible ((first | apply st_bin | apply st_ext | apply st_len | apply st_un | apply st_conv | apply st_mki | apply st_fld | apply st_cap | apply st_max | apply st_min | apply st_ixv | apply st_mkf); intro k' hk; simp [go_sem, thenR_ok, bin]; refine hk _ _ ?_; clear hk k'))
   | ((with_reducible (first | apply tk_bin | apply tk_ext | apply tk_len | apply tk_un)); (· intro w; simp [go_sem, bin]; rfl))
   | ((with_reducible apply sp_newr hs); (· kernel_rfl); intro g w hs))
  exact ⟨rfl, hs.sbl (by repeat (first | with_reducible exact Sbl.all | with_reducible exact Sbl.nil | refine Sbl.cons (by first | ((repeat (first | with_reducible exact Has.hd | with_reducible apply Has.tl)); done) | (repeat (first | exact Has.hd | with_reducible apply Has.tl))) ?_ | refine Sbl.drop ?_))⟩
end
end Go.Proofs.YtlfelmikcdmkhaaGreatDoor
