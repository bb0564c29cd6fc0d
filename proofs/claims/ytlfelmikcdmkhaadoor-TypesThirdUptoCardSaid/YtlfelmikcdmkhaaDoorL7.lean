/- Layer 11's law TypesThird, walked. -/
import Derived.Test.YtlfelmikcdmkhaaDoorCP
set_option linter.unusedVariables false
set_option linter.unusedSimpArgs false
set_option linter.unusedSectionVars false
namespace Go.Proofs.YtlfelmikcdmkhaaDoor
open Go Go.Isk Go.RowKit
set_option maxRecDepth 20000
section
variable {b : Base} {w : World} {L R : List It} {cs ds es : List Value} {c : CaseD} {x y : Commit} {α : Type}
theorem sumC_len (g : α → Nat) : ∀ (l : List α), l.length ≤ (l.map fun v => g v + 1).sum
  | [] => by simp
  | a :: l => by
    have := sumC_len g l
    simp only [List.map_cons, List.sum_cons, List.length_cons]
    omega
theorem sumC_mem (g : α → Nat) : ∀ {l : List α} {v : α}, v ∈ l → g v + 1 ≤ (l.map fun v => g v + 1).sum
  | a :: l, v, h => by
    simp only [List.map_cons, List.sum_cons]
    rcases List.mem_cons.1 h with rfl | h
    · omega
    · have := sumC_mem g h; omega
theorem comm_open (hs : Isk.Sep b w L) (hm : Ins L (commF cs x).it) : ∃ A k, cs = commC (.int .i64 x.height) (.int .i64 x.round) (u8s x.block) (.slice A x.votes.length k) ∧ x.ok ∧ Isk.Sep b w ((listF voteF 37 (.slice A x.votes.length k) x.votes).it :: L) := by
  obtain ⟨vv, rfl, hco, hvs⟩ : CommS _ _ _ x := hs.get hm
  obtain ⟨A, k, rfl⟩ := (hs.fact (f := listF voteF 37 vv x.votes) hvs).lst_len .lst
  exact ⟨A, k, rfl, hco, hs.fact hvs⟩
theorem case_open (hs : Isk.Sep b w L) (hm : Ins L (caseF cs c).it) : ∃ A k, cs = caseV c (.slice A c.set.length k) ∧ I64 c.dg ∧ I64 c.dp ∧ Isk.Sep b w ((listF valiF 34 (.slice A c.set.length k) c.set).it :: L) := by
  obtain ⟨vv, rfl, hco, hvs⟩ : CaseS _ _ _ c := hs.get hm
  obtain ⟨A, k, rfl⟩ := (hs.fact (f := listF valiF 34 vv c.set) hvs).lst_len .lst
  exact ⟨A, k, rfl, hco.1, hco.2, hs.fact hvs⟩
set_option maxHeartbeats 4000000 in
theorem isthmuslaw11_TypesThird (hs : Isk.Sep b w L) (hT : Ins L errT.it) (hR : Ins L rndF.it) (hc : Ins L (caseF cs c).it) (hx : Ins L (commF ds x).it) (hy : Ins L (commF es y).it)
    (hb1 : c.chain.length ≤ 1048576) (hb2 : (c.set.map fun v => v.name.length + 1).sum ≤ 1048576) (hb3 : (x.votes.map fun v => v.sign.length + 1).sum ≤ 1048576) (hb4 : (y.votes.map fun v => v.sign.length + 1).sum ≤ 1048576) :
    C Tryd.prog N.isthmuslaw11_TypesThird #[.agg cs.toArray, .agg ds.toArray, .agg es.toArray] w fun r w' => r = .bool true ∧ Isk.Sep b w' L := by
  have hn1 := sumC_len (fun v : Validator => v.name.length) c.set
  have hn2 := sumC_len (fun v : Vote => v.sign.length) x.votes
  have hn3 := sumC_len (fun v : Vote => v.sign.length) y.votes
  have hnm : ∀ v ∈ c.set, v.name.length ≤ 4611686018427387904 := fun v hv => by have := sumC_mem (fun v : Validator => v.name.length) hv; omega
  have hsx : ∀ v ∈ x.votes, v.sign.length ≤ 2147483648 := fun v hv => by have := sumC_mem (fun v : Vote => v.sign.length) hv; omega
  have hsy : ∀ v ∈ y.votes, v.sign.length ≤ 2147483648 := fun v hv => by have := sumC_mem (fun v : Vote => v.sign.length) hv; omega
  obtain ⟨A1, k1, e1, i1, i2, hs⟩ := case_open hs hc
  obtain ⟨A2, k2, e2, hxo, hs⟩ := comm_open hs (.tl hx)
  obtain ⟨A3, k3, e3, hyo, hs⟩ := comm_open hs (.tl (.tl hy))
  subst e1 e2 e3
  have hxb := hxo.block
  have hyb := hyo.block
  have hpl : ([.int .i64 c.dg, .int .i64 c.dp] : List Value).length = 2 := rfl
  have hxl := commC_len (a0 := .int .i64 x.height) (a1 := .int .i64 x.round) (a2 := u8s x.block) (a3 := .slice A2 x.votes.length k2) (u8s_len hxb)
  have hyl := commC_len (a0 := .int .i64 y.height) (a1 := .int .i64 y.round) (a2 := u8s y.block) (a3 := .slice A3 y.votes.length k3) (u8s_len hyb)
  refine C.isthmuslaw11_TypesThird ?_
  unfold F.isthmuslaw11_TypesThird
  refine sp_boxa hs fun g3 w hs => ?_
  refine sp_boxa hs fun g4 w hs => ?_
  refine sp_boxa hs fun g5 w hs => ?_
  repeat (first
   | (with_reducible refine case.a0 ?_)
   | ((with_reducible apply case.r0 hs); (· (with_reducible (repeat (first | exact .blk | exact .rng | apply Rng.tl)))))
   | (with_reducible refine case.c0 ?_)
   | ((with_reducible apply case.e0); (· first | exact hS | exact hid); (· (with_reducible (repeat (first | exact .blk | exact .rng | apply Rng.tl)))))
   | (with_reducible refine case.a1 ?_)
   | ((with_reducible apply case.r1 hs); (· (with_reducible (repeat (first | exact .blk | exact .rng | apply Rng.tl)))))
   | (with_reducible refine case.c1 ?_)
   | ((with_reducible apply case.e1); (· first | exact hS | exact hid); (· (with_reducible (repeat (first | exact .blk | exact .rng | apply Rng.tl)))))
   | (with_reducible refine case.a2 ?_)
   | ((with_reducible apply case.r2 hs); (· (with_reducible (repeat (first | exact .blk | exact .rng | apply Rng.tl)))); (· (with_reducible (first | assumption | exact z32 | exact u8s_len (by assumption)))))
   | (with_reducible refine case.c2 ?_)
   | ((with_reducible apply case.e2); (· first | exact hS | exact hid); (· (with_reducible (repeat (first | exact .blk | exact .rng | apply Rng.tl)))); (· (with_reducible (first | assumption | exact z32 | exact u8s_len (by assumption)))))
   | (with_reducible (first | refine st_lens ?_ | refine st_eqls ?_ | refine st_nels ?_ | refine tk_eqls ?_ | refine tk_nels ?_ | refine mv.mk ?_ | refine nk_p ?_ | refine gdT_i ?_ | refine gdT_ft ?_ | refine gdT_tf ?_ | refine gdT_u ?_ | refine gd_u ?_ | refine gd_ft ?_ | refine gd_tf ?_ | refine gd_i ?_ | refine pk_t ?_ | refine pk_f ?_ | refine br_t ?_ | refine br_f ?_ | refine sp_boxa hs fun g w hs => ?_))
   | (with_reducible ((first | apply st_bin | apply st_ext | apply st_len | apply st_un | apply st_conv | apply st_mki | apply st_fld | apply st_cap | apply st_max | apply st_min | apply st_ixv | apply st_mkf); intro k' hk; simp [go_sem, thenR_ok, bin]; refine hk _ _ ?_; clear hk k'))
   | ((with_reducible (first | apply tk_bin | apply tk_ext | apply tk_len | apply tk_un)); (· intro w; simp [go_sem, bin]; rfl))
   | ((with_reducible apply sp_newr hs); (· kernel_rfl); intro g w hs))
  refine cl (isthmuslaw11_cut hs) ?_
  rintro _ w ⟨rfl, hs⟩
  generalize hdp : cutD c.dp = dp at *
  refine sp_newr hs (by kernel_rfl) fun g7 w hs => ?_
  refine sp_setr (ds := [.int .i64 c.dg, .int .i64 dp]) hs .hd (by kernel_rfl) rfl (by simp [Value.oneCell']) fun w hs => ?_
  have hsure : ∀ {K : Value → World → Prop}, (∀ w', Isk.Sep b w' L → K (.bool true) w') → C Tryd.prog N.isthmuslaw11_sure #[] w K := by
    intro K hK
    refine cl (isthmuslaw11_sure hs (.tl (.tl (.tl (.tl (.tl (.tl (.tl hT)))))))) ?_
    rintro _ w ⟨rfl, hs⟩
    exact hK w (hs.sbl (.drop (.drop (.drop (.drop (.drop (.drop (.drop .all))))))))
  repeat (first
   | (with_reducible refine comm.a0 ?_)
   | ((with_reducible apply comm.r0 hs); (· (with_reducible (repeat (first | exact .blk | exact .rng | apply Rng.tl)))))
   | (with_reducible refine comm.c0 ?_)
   | ((with_reducible apply comm.e0); (· first | exact hS | exact hid); (· (with_reducible (repeat (first | exact .blk | exact .rng | apply Rng.tl)))))
   | (with_reducible refine comm.a1 ?_)
   | ((with_reducible apply comm.r1 hs); (· (with_reducible (repeat (first | exact .blk | exact .rng | apply Rng.tl)))))
   | (with_reducible refine comm.c1 ?_)
   | ((with_reducible apply comm.e1); (· first | exact hS | exact hid); (· (with_reducible (repeat (first | exact .blk | exact .rng | apply Rng.tl)))))
   | (with_reducible refine comm.a2 ?_)
   | ((with_reducible apply comm.r2 hs); (· (with_reducible (repeat (first | exact .blk | exact .rng | apply Rng.tl)))); (· (with_reducible (first | assumption | exact z32 | exact u8s_len (by assumption)))))
   | (with_reducible refine comm.c2 ?_)
   | ((with_reducible apply comm.e2); (· first | exact hS | exact hid); (· (with_reducible (repeat (first | exact .blk | exact .rng | apply Rng.tl)))); (· (with_reducible (first | assumption | exact z32 | exact u8s_len (by assumption)))))
   | (with_reducible refine comm.a3 ?_)
   | ((with_reducible apply comm.r3 hs); (· (with_reducible (repeat (first | exact .blk | exact .rng | apply Rng.tl)))); (· (with_reducible (first | assumption | exact z32 | exact u8s_len (by assumption)))))
   | (with_reducible refine comm.c3 ?_)
   | ((with_reducible apply comm.e3); (· first | exact hS | exact hid); (· (with_reducible (repeat (first | exact .blk | exact .rng | apply Rng.tl)))); (· (with_reducible (first | assumption | exact z32 | exact u8s_len (by assumption)))))
   | (with_reducible (first | refine st_lens ?_ | refine st_eqls ?_ | refine st_nels ?_ | refine tk_eqls ?_ | refine tk_nels ?_ | refine mv.mk ?_ | refine nk_p ?_ | refine gdT_i ?_ | refine gdT_ft ?_ | refine gdT_tf ?_ | refine gdT_u ?_ | refine gd_u ?_ | refine gd_ft ?_ | refine gd_tf ?_ | refine gd_i ?_ | refine pk_t ?_ | refine pk_f ?_ | refine br_t ?_ | refine br_f ?_ | refine sp_boxa hs fun g w hs => ?_))
   | (with_reducible ((first | apply st_bin | apply st_ext | apply st_len | apply st_un | apply st_conv | apply st_mki | apply st_fld | apply st_cap | apply st_max | apply st_min | apply st_ixv | apply st_mkf); intro k' hk; simp [go_sem, thenR_ok, bin]; refine hk _ _ ?_; clear hk k'))
   | ((with_reducible (first | apply tk_bin | apply tk_ext | apply tk_len | apply tk_un)); (· intro w; simp [go_sem, bin]; rfl))
   | ((with_reducible apply sp_newr hs); (· kernel_rfl); intro g w hs))
  by_cases c1 : 40 < x.votes.length
  · rw [show decide ((40 : Int) < (x.votes.length : Int)) = true by simp; omega]
    repeat (first
     | (with_reducible (first | refine st_lens ?_ | refine st_eqls ?_ | refine st_nels ?_ | refine tk_eqls ?_ | refine tk_nels ?_ | refine mv.mk ?_ | refine nk_p ?_ | refine gdT_i ?_ | refine gdT_ft ?_ | refine gdT_tf ?_ | refine gdT_u ?_ | refine gd_u ?_ | refine gd_ft ?_ | refine gd_tf ?_ | refine gd_i ?_ | refine pk_t ?_ | refine pk_f ?_ | refine br_t ?_ | refine br_f ?_ | refine sp_boxa hs fun g w hs => ?_))
     | (with_reducible ((first | apply st_bin | apply st_ext | apply st_len | apply st_un | apply st_conv | apply st_mki | apply st_fld | apply st_cap | apply st_max | apply st_min | apply st_ixv | apply st_mkf); intro k' hk; simp [go_sem, thenR_ok, bin]; refine hk _ _ ?_; clear hk k'))
     | ((with_reducible (first | apply tk_bin | apply tk_ext | apply tk_len | apply tk_un)); (· intro w; simp [go_sem, bin]; rfl))
     | ((with_reducible apply sp_newr hs); (· kernel_rfl); intro g w hs))
    exact hsure fun w' hs => mv.mk ⟨rfl, hs⟩
  rw [show decide ((40 : Int) < (x.votes.length : Int)) = false by simp; omega]
  repeat (first
   | (with_reducible refine comm.a0 ?_)
   | ((with_reducible apply comm.r0 hs); (· (with_reducible (repeat (first | exact .blk | exact .rng | apply Rng.tl)))))
   | (with_reducible refine comm.c0 ?_)
   | ((with_reducible apply comm.e0); (· first | exact hS | exact hid); (· (with_reducible (repeat (first | exact .blk | exact .rng | apply Rng.tl)))))
   | (with_reducible refine comm.a1 ?_)
   | ((with_reducible apply comm.r1 hs); (· (with_reducible (repeat (first | exact .blk | exact .rng | apply Rng.tl)))))
   | (with_reducible refine comm.c1 ?_)
   | ((with_reducible apply comm.e1); (· first | exact hS | exact hid); (· (with_reducible (repeat (first | exact .blk | exact .rng | apply Rng.tl)))))
   | (with_reducible refine comm.a2 ?_)
   | ((with_reducible apply comm.r2 hs); (· (with_reducible (repeat (first | exact .blk | exact .rng | apply Rng.tl)))); (· (with_reducible (first | assumption | exact z32 | exact u8s_len (by assumption)))))
   | (with_reducible refine comm.c2 ?_)
   | ((with_reducible apply comm.e2); (· first | exact hS | exact hid); (· (with_reducible (repeat (first | exact .blk | exact .rng | apply Rng.tl)))); (· (with_reducible (first | assumption | exact z32 | exact u8s_len (by assumption)))))
   | (with_reducible refine comm.a3 ?_)
   | ((with_reducible apply comm.r3 hs); (· (with_reducible (repeat (first | exact .blk | exact .rng | apply Rng.tl)))); (· (with_reducible (first | assumption | exact z32 | exact u8s_len (by assumption)))))
   | (with_reducible refine comm.c3 ?_)
   | ((with_reducible apply comm.e3); (· first | exact hS | exact hid); (· (with_reducible (repeat (first | exact .blk | exact .rng | apply Rng.tl)))); (· (with_reducible (first | assumption | exact z32 | exact u8s_len (by assumption)))))
   | (with_reducible (first | refine st_lens ?_ | refine st_eqls ?_ | refine st_nels ?_ | refine tk_eqls ?_ | refine tk_nels ?_ | refine mv.mk ?_ | refine nk_p ?_ | refine gdT_i ?_ | refine gdT_ft ?_ | refine gdT_tf ?_ | refine gdT_u ?_ | refine gd_u ?_ | refine gd_ft ?_ | refine gd_tf ?_ | refine gd_i ?_ | refine pk_t ?_ | refine pk_f ?_ | refine br_t ?_ | refine br_f ?_ | refine sp_boxa hs fun g w hs => ?_))
   | (with_reducible ((first | apply st_bin | apply st_ext | apply st_len | apply st_un | apply st_conv | apply st_mki | apply st_fld | apply st_cap | apply st_max | apply st_min | apply st_ixv | apply st_mkf); intro k' hk; simp [go_sem, thenR_ok, bin]; refine hk _ _ ?_; clear hk k'))
   | ((with_reducible (first | apply tk_bin | apply tk_ext | apply tk_len | apply tk_un)); (· intro w; simp [go_sem, bin]; rfl))
   | ((with_reducible apply sp_newr hs); (· kernel_rfl); intro g w hs))
  by_cases c2 : 40 < y.votes.length
  · rw [show decide ((40 : Int) < (y.votes.length : Int)) = true by simp; omega]
    repeat (first
     | (with_reducible (first | refine st_lens ?_ | refine st_eqls ?_ | refine st_nels ?_ | refine tk_eqls ?_ | refine tk_nels ?_ | refine mv.mk ?_ | refine nk_p ?_ | refine gdT_i ?_ | refine gdT_ft ?_ | refine gdT_tf ?_ | refine gdT_u ?_ | refine gd_u ?_ | refine gd_ft ?_ | refine gd_tf ?_ | refine gd_i ?_ | refine pk_t ?_ | refine pk_f ?_ | refine br_t ?_ | refine br_f ?_ | refine sp_boxa hs fun g w hs => ?_))
     | (with_reducible ((first | apply st_bin | apply st_ext | apply st_len | apply st_un | apply st_conv | apply st_mki | apply st_fld | apply st_cap | apply st_max | apply st_min | apply st_ixv | apply st_mkf); intro k' hk; simp [go_sem, thenR_ok, bin]; refine hk _ _ ?_; clear hk k'))
     | ((with_reducible (first | apply tk_bin | apply tk_ext | apply tk_len | apply tk_un)); (· intro w; simp [go_sem, bin]; rfl))
     | ((with_reducible apply sp_newr hs); (· kernel_rfl); intro g w hs))
    exact hsure fun w' hs => mv.mk ⟨rfl, hs⟩
  rw [show decide ((40 : Int) < (y.votes.length : Int)) = false by simp; omega]
  clear hsure
  repeat (first
   | (with_reducible refine case.a0 ?_)
   | ((with_reducible apply case.r0 hs); (· (with_reducible (repeat (first | exact .blk | exact .rng | apply Rng.tl)))))
   | (with_reducible refine case.c0 ?_)
   | ((with_reducible apply case.e0); (· first | exact hS | exact hid); (· (with_reducible (repeat (first | exact .blk | exact .rng | apply Rng.tl)))))
   | (with_reducible refine case.a1 ?_)
   | ((with_reducible apply case.r1 hs); (· (with_reducible (repeat (first | exact .blk | exact .rng | apply Rng.tl)))))
   | (with_reducible refine case.c1 ?_)
   | ((with_reducible apply case.e1); (· first | exact hS | exact hid); (· (with_reducible (repeat (first | exact .blk | exact .rng | apply Rng.tl)))))
   | (with_reducible refine case.a2 ?_)
   | ((with_reducible apply case.r2 hs); (· (with_reducible (repeat (first | exact .blk | exact .rng | apply Rng.tl)))); (· (with_reducible (first | assumption | exact z32 | exact u8s_len (by assumption)))))
   | (with_reducible refine case.c2 ?_)
   | ((with_reducible apply case.e2); (· first | exact hS | exact hid); (· (with_reducible (repeat (first | exact .blk | exact .rng | apply Rng.tl)))); (· (with_reducible (first | assumption | exact z32 | exact u8s_len (by assumption)))))
   | (with_reducible (first | refine st_lens ?_ | refine st_eqls ?_ | refine st_nels ?_ | refine tk_eqls ?_ | refine tk_nels ?_ | refine mv.mk ?_ | refine nk_p ?_ | refine gdT_i ?_ | refine gdT_ft ?_ | refine gdT_tf ?_ | refine gdT_u ?_ | refine gd_u ?_ | refine gd_ft ?_ | refine gd_tf ?_ | refine gd_i ?_ | refine pk_t ?_ | refine pk_f ?_ | refine br_t ?_ | refine br_f ?_ | refine sp_boxa hs fun g w hs => ?_))
   | (with_reducible ((first | apply st_bin | apply st_ext | apply st_len | apply st_un | apply st_conv | apply st_mki | apply st_fld | apply st_cap | apply st_max | apply st_min | apply st_ixv | apply st_mkf); intro k' hk; simp [go_sem, thenR_ok, bin]; refine hk _ _ ?_; clear hk k'))
   | ((with_reducible (first | apply tk_bin | apply tk_ext | apply tk_len | apply tk_un)); (· intro w; simp [go_sem, bin]; rfl))
   | ((with_reducible apply sp_newr hs); (· kernel_rfl); intro g w hs))
  refine sp_loadall hs .hd (by kernel_rfl) rfl ?_
  refine sp_loadall hs (.tl (.tl .hd)) (by kernel_rfl) hxl ?_
  refine cl (types_VerifyCommit (l := c.set) (c := x) (chain := c.chain) (dg := c.dg) (dp := dp) hs (.tl (.tl (.tl (.tl (.tl (.tl (.tl hR))))))) (by repeat (first | with_reducible exact Ins.hd | with_reducible apply Ins.tl)) (.tl (.tl (.tl (.tl (.tl (.tl (.tl hx))))))) (by omega) hnm (by omega) hsx hb1) ?_
  rintro e w hs
  refine st_of (err_neq hs .hd) ?_
  by_cases c3 : verifyCommit c.chain c.set c.dg dp x = 0
  rotate_left
  · rw [decide_eq_false c3, Bool.not_false]
    repeat (first
     | (with_reducible (first | refine st_lens ?_ | refine st_eqls ?_ | refine st_nels ?_ | refine tk_eqls ?_ | refine tk_nels ?_ | refine mv.mk ?_ | refine nk_p ?_ | refine gdT_i ?_ | refine gdT_ft ?_ | refine gdT_tf ?_ | refine gdT_u ?_ | refine gd_u ?_ | refine gd_ft ?_ | refine gd_tf ?_ | refine gd_i ?_ | refine pk_t ?_ | refine pk_f ?_ | refine br_t ?_ | refine br_f ?_ | refine sp_boxa hs fun g w hs => ?_))
     | (with_reducible ((first | apply st_bin | apply st_ext | apply st_len | apply st_un | apply st_conv | apply st_mki | apply st_fld | apply st_cap | apply st_max | apply st_min | apply st_ixv | apply st_mkf); intro k' hk; simp [go_sem, thenR_ok, bin]; refine hk _ _ ?_; clear hk k'))
     | ((with_reducible (first | apply tk_bin | apply tk_ext | apply tk_len | apply tk_un)); (· intro w; simp [go_sem, bin]; rfl))
     | ((with_reducible apply sp_newr hs); (· kernel_rfl); intro g w hs))
    refine cl (isthmuslaw11_sure hs (.tl (.tl (.tl (.tl (.tl (.tl (.tl (.tl hT))))))))) ?_
    rintro _ w ⟨rfl, hs⟩
    repeat with_reducible refine mv.mk ?_
    exact ⟨rfl, hs.sbl (.drop (.drop (.drop (.drop (.drop (.drop (.drop (.drop .all))))))))⟩
  rw [decide_eq_true c3, Bool.not_true]
  repeat (first
   | (with_reducible refine case.a0 ?_)
   | ((with_reducible apply case.r0 hs); (· (with_reducible (repeat (first | exact .blk | exact .rng | apply Rng.tl)))))
   | (with_reducible refine case.c0 ?_)
   | ((with_reducible apply case.e0); (· first | exact hS | exact hid); (· (with_reducible (repeat (first | exact .blk | exact .rng | apply Rng.tl)))))
   | (with_reducible refine case.a1 ?_)
   | ((with_reducible apply case.r1 hs); (· (with_reducible (repeat (first | exact .blk | exact .rng | apply Rng.tl)))))
   | (with_reducible refine case.c1 ?_)
   | ((with_reducible apply case.e1); (· first | exact hS | exact hid); (· (with_reducible (repeat (first | exact .blk | exact .rng | apply Rng.tl)))))
   | (with_reducible refine case.a2 ?_)
   | ((with_reducible apply case.r2 hs); (· (with_reducible (repeat (first | exact .blk | exact .rng | apply Rng.tl)))); (· (with_reducible (first | assumption | exact z32 | exact u8s_len (by assumption)))))
   | (with_reducible refine case.c2 ?_)
   | ((with_reducible apply case.e2); (· first | exact hS | exact hid); (· (with_reducible (repeat (first | exact .blk | exact .rng | apply Rng.tl)))); (· (with_reducible (first | assumption | exact z32 | exact u8s_len (by assumption)))))
   | (with_reducible (first | refine st_lens ?_ | refine st_eqls ?_ | refine st_nels ?_ | refine tk_eqls ?_ | refine tk_nels ?_ | refine mv.mk ?_ | refine nk_p ?_ | refine gdT_i ?_ | refine gdT_ft ?_ | refine gdT_tf ?_ | refine gdT_u ?_ | refine gd_u ?_ | refine gd_ft ?_ | refine gd_tf ?_ | refine gd_i ?_ | refine pk_t ?_ | refine pk_f ?_ | refine br_t ?_ | refine br_f ?_ | refine sp_boxa hs fun g w hs => ?_))
   | (with_reducible ((first | apply st_bin | apply st_ext | apply st_len | apply st_un | apply st_conv | apply st_mki | apply st_fld | apply st_cap | apply st_max | apply st_min | apply st_ixv | apply st_mkf); intro k' hk; simp [go_sem, thenR_ok, bin]; refine hk _ _ ?_; clear hk k'))
   | ((with_reducible (first | apply tk_bin | apply tk_ext | apply tk_len | apply tk_un)); (· intro w; simp [go_sem, bin]; rfl))
   | ((with_reducible apply sp_newr hs); (· kernel_rfl); intro g w hs))
  refine sp_loadall hs (.tl .hd) (by kernel_rfl) rfl ?_
  refine gd_i ?_
  refine sp_loadall hs (.tl (.tl .hd)) (by kernel_rfl) hyl ?_
  refine gd_i ?_
  refine cl (types_VerifyCommit (l := c.set) (c := y) (chain := c.chain) (dg := c.dg) (dp := dp) hs (.tl (.tl (.tl (.tl (.tl (.tl (.tl (.tl hR)))))))) (by repeat (first | with_reducible exact Ins.hd | with_reducible apply Ins.tl)) (.tl (.tl (.tl (.tl (.tl (.tl (.tl (.tl hy)))))))) (by omega) hnm (by omega) hsy hb1) ?_
  rintro e' w hs
  refine gd_i ?_
  refine st_of (err_neq hs .hd) ?_
  by_cases c4 : verifyCommit c.chain c.set c.dg dp y = 0
  rotate_left
  · rw [decide_eq_false c4, Bool.not_false]
    repeat (first
     | (with_reducible (first | refine st_lens ?_ | refine st_eqls ?_ | refine st_nels ?_ | refine tk_eqls ?_ | refine tk_nels ?_ | refine mv.mk ?_ | refine nk_p ?_ | refine gdT_i ?_ | refine gdT_ft ?_ | refine gdT_tf ?_ | refine gdT_u ?_ | refine gd_u ?_ | refine gd_ft ?_ | refine gd_tf ?_ | refine gd_i ?_ | refine pk_t ?_ | refine pk_f ?_ | refine br_t ?_ | refine br_f ?_ | refine sp_boxa hs fun g w hs => ?_))
     | (with_reducible ((first | apply st_bin | apply st_ext | apply st_len | apply st_un | apply st_conv | apply st_mki | apply st_fld | apply st_cap | apply st_max | apply st_min | apply st_ixv | apply st_mkf); intro k' hk; simp [go_sem, thenR_ok, bin]; refine hk _ _ ?_; clear hk k'))
     | ((with_reducible (first | apply tk_bin | apply tk_ext | apply tk_len | apply tk_un)); (· intro w; simp [go_sem, bin]; rfl))
     | ((with_reducible apply sp_newr hs); (· kernel_rfl); intro g w hs))
    refine cl (isthmuslaw11_sure hs (.tl (.tl (.tl (.tl (.tl (.tl (.tl (.tl (.tl hT)))))))))) ?_
    rintro _ w ⟨rfl, hs⟩
    repeat with_reducible refine mv.mk ?_
    exact ⟨rfl, hs.sbl (.drop (.drop (.drop (.drop (.drop (.drop (.drop (.drop (.drop .all)))))))))⟩
  rw [decide_eq_true c4, Bool.not_true]
  repeat (first
   | (with_reducible (first | refine st_lens ?_ | refine st_eqls ?_ | refine st_nels ?_ | refine tk_eqls ?_ | refine tk_nels ?_ | refine mv.mk ?_ | refine nk_p ?_ | refine gdT_i ?_ | refine gdT_ft ?_ | refine gdT_tf ?_ | refine gdT_u ?_ | refine gd_u ?_ | refine gd_ft ?_ | refine gd_tf ?_ | refine gd_i ?_ | refine pk_t ?_ | refine pk_f ?_ | refine br_t ?_ | refine br_f ?_ | refine sp_boxa hs fun g w hs => ?_))
   | (with_reducible ((first | apply st_bin | apply st_ext | apply st_len | apply st_un | apply st_conv | apply st_mki | apply st_fld | apply st_cap | apply st_max | apply st_min | apply st_ixv | apply st_mkf); intro k' hk; simp [go_sem, thenR_ok, bin]; refine hk _ _ ?_; clear hk k'))
   | ((with_reducible (first | apply tk_bin | apply tk_ext | apply tk_len | apply tk_un)); (· intro w; simp [go_sem, bin]; rfl))
   | ((with_reducible apply sp_newr hs); (· kernel_rfl); intro g w hs))
  have hth := third_ok c3 c4
  replace hs := hs.sbl (.drop (.drop .all))
  generalize hLL : (_ : It) :: blkI g5 _ _ :: _ = LL at hs
  refine lp_by (fun us w' => ∃ (i : Nat) (q1 q2 : Value), us = [.int .i64 (third c.set (x.votes.take i) y.votes), .int .i64 (i : Int), q1, q2] ∧ i ≤ x.votes.length ∧ Isk.Sep b w' LL) (fun us _ => match us with | [_, .int _ m, _, _] => x.votes.length - m.toNat | _ => 0) ⟨0, _, _, rfl, Nat.zero_le _, hs⟩ ?_
  clear hs
  rintro x1 w ⟨i, q1, q2, hx1, hi, hs⟩
  simp only [List.cons.injEq, and_true] at hx1
  simp only [hx1.1, hx1.2.1, hx1.2.2.1, hx1.2.2.2]
  subst hLL
  repeat (first
   | (with_reducible refine comm.a0 ?_)
   | ((with_reducible apply comm.r0 hs); (· (with_reducible (repeat (first | exact .blk | exact .rng | apply Rng.tl)))))
   | (with_reducible refine comm.c0 ?_)
   | ((with_reducible apply comm.e0); (· first | exact hS | exact hid); (· (with_reducible (repeat (first | exact .blk | exact .rng | apply Rng.tl)))))
   | (with_reducible refine comm.a1 ?_)
   | ((with_reducible apply comm.r1 hs); (· (with_reducible (repeat (first | exact .blk | exact .rng | apply Rng.tl)))))
   | (with_reducible refine comm.c1 ?_)
   | ((with_reducible apply comm.e1); (· first | exact hS | exact hid); (· (with_reducible (repeat (first | exact .blk | exact .rng | apply Rng.tl)))))
   | (with_reducible refine comm.a2 ?_)
   | ((with_reducible apply comm.r2 hs); (· (with_reducible (repeat (first | exact .blk | exact .rng | apply Rng.tl)))); (· (with_reducible (first | assumption | exact z32 | exact u8s_len (by assumption)))))
   | (with_reducible refine comm.c2 ?_)
   | ((with_reducible apply comm.e2); (· first | exact hS | exact hid); (· (with_reducible (repeat (first | exact .blk | exact .rng | apply Rng.tl)))); (· (with_reducible (first | assumption | exact z32 | exact u8s_len (by assumption)))))
   | (with_reducible refine comm.a3 ?_)
   | ((with_reducible apply comm.r3 hs); (· (with_reducible (repeat (first | exact .blk | exact .rng | apply Rng.tl)))); (· (with_reducible (first | assumption | exact z32 | exact u8s_len (by assumption)))))
   | (with_reducible refine comm.c3 ?_)
   | ((with_reducible apply comm.e3); (· first | exact hS | exact hid); (· (with_reducible (repeat (first | exact .blk | exact .rng | apply Rng.tl)))); (· (with_reducible (first | assumption | exact z32 | exact u8s_len (by assumption)))))
   | (with_reducible (first | refine st_lens ?_ | refine st_eqls ?_ | refine st_nels ?_ | refine tk_eqls ?_ | refine tk_nels ?_ | refine mv.mk ?_ | refine nk_p ?_ | refine gdT_i ?_ | refine gdT_ft ?_ | refine gdT_tf ?_ | refine gdT_u ?_ | refine gd_u ?_ | refine gd_ft ?_ | refine gd_tf ?_ | refine gd_i ?_ | refine pk_t ?_ | refine pk_f ?_ | refine br_t ?_ | refine br_f ?_ | refine sp_boxa hs fun g w hs => ?_))
   | (with_reducible ((first | apply st_bin | apply st_ext | apply st_len | apply st_un | apply st_conv | apply st_mki | apply st_fld | apply st_cap | apply st_max | apply st_min | apply st_ixv | apply st_mkf); intro k' hk; simp [go_sem, thenR_ok, bin]; refine hk _ _ ?_; clear hk k'))
   | ((with_reducible (first | apply tk_bin | apply tk_ext | apply tk_len | apply tk_un)); (· intro w; simp [go_sem, bin]; rfl))
   | ((with_reducible apply sp_newr hs); (· kernel_rfl); intro g w hs))
  refine br_split (fun hq => ?_) (fun hq => ?_)
  · have hi' : i < x.votes.length := by have := of_decide_eq_true hq; omega
    repeat with_reducible refine mv.mk ?_
    generalize hP : third c.set (x.votes.take i) y.votes = P at *
    generalize hLL : (_ : It) :: blkI g5 _ _ :: _ = LL at hs
    refine lp_by (fun us w' => ∃ (k : Nat) (P' : Int) (q : Value), us = [.int .i64 P', .int .i64 (k : Int), q] ∧ k ≤ y.votes.length ∧ P' = thirdIn c.set x.votes[i].validator P (y.votes.take k) ∧ Isk.Sep b w' LL) (fun us _ => match us with | [_, .int _ m, _] => y.votes.length - m.toNat | _ => 0) ⟨0, _, _, rfl, Nat.zero_le _, rfl, hs⟩ ?_
    clear hs
    rintro x2 w ⟨k, P', q, hx2, hk, hP', hs⟩
    simp only [List.cons.injEq, and_true] at hx2
    simp only [hx2.1, hx2.2.1, hx2.2.2]
    subst hLL
    repeat (first
     | (with_reducible refine comm.a0 ?_)
     | ((with_reducible apply comm.r0 hs); (· (with_reducible (repeat (first | exact .blk | exact .rng | apply Rng.tl)))))
     | (with_reducible refine comm.c0 ?_)
     | ((with_reducible apply comm.e0); (· first | exact hS | exact hid); (· (with_reducible (repeat (first | exact .blk | exact .rng | apply Rng.tl)))))
     | (with_reducible refine comm.a1 ?_)
     | ((with_reducible apply comm.r1 hs); (· (with_reducible (repeat (first | exact .blk | exact .rng | apply Rng.tl)))))
     | (with_reducible refine comm.c1 ?_)
     | ((with_reducible apply comm.e1); (· first | exact hS | exact hid); (· (with_reducible (repeat (first | exact .blk | exact .rng | apply Rng.tl)))))
     | (with_reducible refine comm.a2 ?_)
     | ((with_reducible apply comm.r2 hs); (· (with_reducible (repeat (first | exact .blk | exact .rng | apply Rng.tl)))); (· (with_reducible (first | assumption | exact z32 | exact u8s_len (by assumption)))))
     | (with_reducible refine comm.c2 ?_)
     | ((with_reducible apply comm.e2); (· first | exact hS | exact hid); (· (with_reducible (repeat (first | exact .blk | exact .rng | apply Rng.tl)))); (· (with_reducible (first | assumption | exact z32 | exact u8s_len (by assumption)))))
     | (with_reducible refine comm.a3 ?_)
     | ((with_reducible apply comm.r3 hs); (· (with_reducible (repeat (first | exact .blk | exact .rng | apply Rng.tl)))); (· (with_reducible (first | assumption | exact z32 | exact u8s_len (by assumption)))))
     | (with_reducible refine comm.c3 ?_)
     | ((with_reducible apply comm.e3); (· first | exact hS | exact hid); (· (with_reducible (repeat (first | exact .blk | exact .rng | apply Rng.tl)))); (· (with_reducible (first | assumption | exact z32 | exact u8s_len (by assumption)))))
     | (with_reducible (first | refine st_lens ?_ | refine st_eqls ?_ | refine st_nels ?_ | refine tk_eqls ?_ | refine tk_nels ?_ | refine mv.mk ?_ | refine nk_p ?_ | refine gdT_i ?_ | refine gdT_ft ?_ | refine gdT_tf ?_ | refine gdT_u ?_ | refine gd_u ?_ | refine gd_ft ?_ | refine gd_tf ?_ | refine gd_i ?_ | refine pk_t ?_ | refine pk_f ?_ | refine br_t ?_ | refine br_f ?_ | refine sp_boxa hs fun g w hs => ?_))
     | (with_reducible ((first | apply st_bin | apply st_ext | apply st_len | apply st_un | apply st_conv | apply st_mki | apply st_fld | apply st_cap | apply st_max | apply st_min | apply st_ixv | apply st_mkf); intro k' hk; simp [go_sem, thenR_ok, bin]; refine hk _ _ ?_; clear hk k'))
     | ((with_reducible (first | apply tk_bin | apply tk_ext | apply tk_len | apply tk_un)); (· intro w; simp [go_sem, bin]; rfl))
     | ((with_reducible apply sp_newr hs); (· kernel_rfl); intro g w hs))
    refine br_split (fun hq => ?_) (fun hq => ?_)
    · have hk' : k < y.votes.length := by have := of_decide_eq_true hq; omega
      have hst : thirdIn c.set x.votes[i].validator P (y.votes.take (k + 1)) = if x.votes[i].validator = y.votes[k].validator ∧ 0 ≤ x.votes[i].validator ∧ x.votes[i].validator < c.set.length then IntKind.i64.wrap (P' + powerOf c.set x.votes[i].validator) else P' := by
        rw [thirdIn, foldl_take _ _ hk', ← thirdIn, ← hP']
      have hvi := hsx _ (List.getElem_mem hi')
      have hs' := hs
      generalize hLL : (_ : It) :: blkI g5 _ _ :: _ = LL at hs'
      repeat (first
       | (with_reducible refine comm.a0 ?_)
       | ((with_reducible apply comm.r0 hs); (· (with_reducible (repeat (first | exact .blk | exact .rng | apply Rng.tl)))))
       | (with_reducible refine comm.c0 ?_)
       | ((with_reducible apply comm.e0); (· first | exact hS | exact hid); (· (with_reducible (repeat (first | exact .blk | exact .rng | apply Rng.tl)))))
       | (with_reducible refine comm.a1 ?_)
       | ((with_reducible apply comm.r1 hs); (· (with_reducible (repeat (first | exact .blk | exact .rng | apply Rng.tl)))))
       | (with_reducible refine comm.c1 ?_)
       | ((with_reducible apply comm.e1); (· first | exact hS | exact hid); (· (with_reducible (repeat (first | exact .blk | exact .rng | apply Rng.tl)))))
       | (with_reducible refine comm.a2 ?_)
       | ((with_reducible apply comm.r2 hs); (· (with_reducible (repeat (first | exact .blk | exact .rng | apply Rng.tl)))); (· (with_reducible (first | assumption | exact z32 | exact u8s_len (by assumption)))))
       | (with_reducible refine comm.c2 ?_)
       | ((with_reducible apply comm.e2); (· first | exact hS | exact hid); (· (with_reducible (repeat (first | exact .blk | exact .rng | apply Rng.tl)))); (· (with_reducible (first | assumption | exact z32 | exact u8s_len (by assumption)))))
       | (with_reducible refine comm.a3 ?_)
       | ((with_reducible apply comm.r3 hs); (· (with_reducible (repeat (first | exact .blk | exact .rng | apply Rng.tl)))); (· (with_reducible (first | assumption | exact z32 | exact u8s_len (by assumption)))))
       | (with_reducible refine comm.c3 ?_)
       | ((with_reducible apply comm.e3); (· first | exact hS | exact hid); (· (with_reducible (repeat (first | exact .blk | exact .rng | apply Rng.tl)))); (· (with_reducible (first | assumption | exact z32 | exact u8s_len (by assumption)))))
       | (with_reducible (first | refine st_lens ?_ | refine st_eqls ?_ | refine st_nels ?_ | refine tk_eqls ?_ | refine tk_nels ?_ | refine mv.mk ?_ | refine nk_p ?_ | refine gdT_i ?_ | refine gdT_ft ?_ | refine gdT_tf ?_ | refine gdT_u ?_ | refine gd_u ?_ | refine gd_ft ?_ | refine gd_tf ?_ | refine gd_i ?_ | refine pk_t ?_ | refine pk_f ?_ | refine br_t ?_ | refine br_f ?_ | refine sp_boxa hs fun g w hs => ?_))
       | (with_reducible ((first | apply st_bin | apply st_ext | apply st_len | apply st_un | apply st_conv | apply st_mki | apply st_fld | apply st_cap | apply st_max | apply st_min | apply st_ixv | apply st_mkf); intro k' hk; simp [go_sem, thenR_ok, bin]; refine hk _ _ ?_; clear hk k'))
       | ((with_reducible (first | apply tk_bin | apply tk_ext | apply tk_len | apply tk_un)); (· intro w; simp [go_sem, bin]; rfl))
       | ((with_reducible apply sp_newr hs); (· kernel_rfl); intro g w hs))
      obtain ⟨gg1, oo1, xs, hr1, hl1, hs⟩ := hs.el (F := voteF) (sv := .slice A2 x.votes.length k2) (ls := x.votes) (by repeat (first | with_reducible exact Ins.hd | with_reducible apply Ins.tl)) tVotes i hi'
      obtain ⟨sg1, hxs, vok1, _⟩ : VoteS _ _ xs x.votes[i] := hs.get (I := (voteF xs x.votes[i]).it) (by repeat (first | with_reducible exact Ins.hd | with_reducible apply Ins.tl))
      subst hxs
      have hvb1 := vok1.block
      refine st_of (hr1 .i64 _) ?_
      repeat (first
       | (with_reducible refine vote.a0 ?_)
       | ((with_reducible apply vote.r0 hs); (· (with_reducible (repeat (first | exact .blk | exact .rng | apply Rng.tl)))))
       | (with_reducible refine vote.c0 ?_)
       | ((with_reducible apply vote.e0); (· first | exact hS | exact hid); (· (with_reducible (repeat (first | exact .blk | exact .rng | apply Rng.tl)))))
       | (with_reducible refine vote.a1 ?_)
       | ((with_reducible apply vote.r1 hs); (· (with_reducible (repeat (first | exact .blk | exact .rng | apply Rng.tl)))))
       | (with_reducible refine vote.c1 ?_)
       | ((with_reducible apply vote.e1); (· first | exact hS | exact hid); (· (with_reducible (repeat (first | exact .blk | exact .rng | apply Rng.tl)))))
       | (with_reducible refine vote.a2 ?_)
       | ((with_reducible apply vote.r2 hs); (· (with_reducible (repeat (first | exact .blk | exact .rng | apply Rng.tl)))))
       | (with_reducible refine vote.c2 ?_)
       | ((with_reducible apply vote.e2); (· first | exact hS | exact hid); (· (with_reducible (repeat (first | exact .blk | exact .rng | apply Rng.tl)))))
       | (with_reducible refine vote.a3 ?_)
       | ((with_reducible apply vote.r3 hs); (· (with_reducible (repeat (first | exact .blk | exact .rng | apply Rng.tl)))); (· (with_reducible (first | assumption | exact z32 | exact u8s_len (by assumption)))))
       | (with_reducible refine vote.c3 ?_)
       | ((with_reducible apply vote.e3); (· first | exact hS | exact hid); (· (with_reducible (repeat (first | exact .blk | exact .rng | apply Rng.tl)))); (· (with_reducible (first | assumption | exact z32 | exact u8s_len (by assumption)))))
       | (with_reducible refine vote.a4 ?_)
       | ((with_reducible apply vote.r4 hs); (· (with_reducible (repeat (first | exact .blk | exact .rng | apply Rng.tl)))); (· (with_reducible (first | assumption | exact z32 | exact u8s_len (by assumption)))))
       | (with_reducible refine vote.c4 ?_)
       | ((with_reducible apply vote.e4); (· first | exact hS | exact hid); (· (with_reducible (repeat (first | exact .blk | exact .rng | apply Rng.tl)))); (· (with_reducible (first | assumption | exact z32 | exact u8s_len (by assumption)))))
       | (with_reducible refine vote.a5 ?_)
       | ((with_reducible apply vote.r5 hs); (· (with_reducible (repeat (first | exact .blk | exact .rng | apply Rng.tl)))); (· (with_reducible (first | assumption | exact z32 | exact u8s_len (by assumption)))))
       | (with_reducible refine vote.c5 ?_)
       | ((with_reducible apply vote.e5); (· first | exact hS | exact hid); (· (with_reducible (repeat (first | exact .blk | exact .rng | apply Rng.tl)))); (· (with_reducible (first | assumption | exact z32 | exact u8s_len (by assumption)))))
       | (with_reducible refine comm.a0 ?_)
       | ((with_reducible apply comm.r0 hs); (· (with_reducible (repeat (first | exact .blk | exact .rng | apply Rng.tl)))))
       | (with_reducible refine comm.c0 ?_)
       | ((with_reducible apply comm.e0); (· first | exact hS | exact hid); (· (with_reducible (repeat (first | exact .blk | exact .rng | apply Rng.tl)))))
       | (with_reducible refine comm.a1 ?_)
       | ((with_reducible apply comm.r1 hs); (· (with_reducible (repeat (first | exact .blk | exact .rng | apply Rng.tl)))))
       | (with_reducible refine comm.c1 ?_)
       | ((with_reducible apply comm.e1); (· first | exact hS | exact hid); (· (with_reducible (repeat (first | exact .blk | exact .rng | apply Rng.tl)))))
       | (with_reducible refine comm.a2 ?_)
       | ((with_reducible apply comm.r2 hs); (· (with_reducible (repeat (first | exact .blk | exact .rng | apply Rng.tl)))); (· (with_reducible (first | assumption | exact z32 | exact u8s_len (by assumption)))))
       | (with_reducible refine comm.c2 ?_)
       | ((with_reducible apply comm.e2); (· first | exact hS | exact hid); (· (with_reducible (repeat (first | exact .blk | exact .rng | apply Rng.tl)))); (· (with_reducible (first | assumption | exact z32 | exact u8s_len (by assumption)))))
       | (with_reducible refine comm.a3 ?_)
       | ((with_reducible apply comm.r3 hs); (· (with_reducible (repeat (first | exact .blk | exact .rng | apply Rng.tl)))); (· (with_reducible (first | assumption | exact z32 | exact u8s_len (by assumption)))))
       | (with_reducible refine comm.c3 ?_)
       | ((with_reducible apply comm.e3); (· first | exact hS | exact hid); (· (with_reducible (repeat (first | exact .blk | exact .rng | apply Rng.tl)))); (· (with_reducible (first | assumption | exact z32 | exact u8s_len (by assumption)))))
       | (with_reducible (first | refine st_lens ?_ | refine st_eqls ?_ | refine st_nels ?_ | refine tk_eqls ?_ | refine tk_nels ?_ | refine mv.mk ?_ | refine nk_p ?_ | refine gdT_i ?_ | refine gdT_ft ?_ | refine gdT_tf ?_ | refine gdT_u ?_ | refine gd_u ?_ | refine gd_ft ?_ | refine gd_tf ?_ | refine gd_i ?_ | refine pk_t ?_ | refine pk_f ?_ | refine br_t ?_ | refine br_f ?_ | refine sp_boxa hs fun g w hs => ?_))
       | (with_reducible ((first | apply st_bin | apply st_ext | apply st_len | apply st_un | apply st_conv | apply st_mki | apply st_fld | apply st_cap | apply st_max | apply st_min | apply st_ixv | apply st_mkf); intro k' hk; simp [go_sem, thenR_ok, bin]; refine hk _ _ ?_; clear hk k'))
       | ((with_reducible (first | apply tk_bin | apply tk_ext | apply tk_len | apply tk_un)); (· intro w; simp [go_sem, bin]; rfl))
       | ((with_reducible apply sp_newr hs); (· kernel_rfl); intro g w hs))
      obtain ⟨gg2, oo2, ys, hr2, hl2, hs⟩ := hs.el (F := voteF) (sv := .slice A3 y.votes.length k3) (ls := y.votes) (by repeat (first | with_reducible exact Ins.hd | with_reducible apply Ins.tl)) tVotes k hk'
      obtain ⟨sg2, hys, vok2, _⟩ : VoteS _ _ ys y.votes[k] := hs.get (I := (voteF ys y.votes[k]).it) (by repeat (first | with_reducible exact Ins.hd | with_reducible apply Ins.tl))
      subst hys
      have hvb2 := vok2.block
      refine st_of (hr2 .i64 _) ?_
      repeat (first
       | (with_reducible refine vote.a0 ?_)
       | ((with_reducible apply vote.r0 hs); (· (with_reducible (repeat (first | exact .blk | exact .rng | apply Rng.tl)))))
       | (with_reducible refine vote.c0 ?_)
       | ((with_reducible apply vote.e0); (· first | exact hS | exact hid); (· (with_reducible (repeat (first | exact .blk | exact .rng | apply Rng.tl)))))
       | (with_reducible refine vote.a1 ?_)
       | ((with_reducible apply vote.r1 hs); (· (with_reducible (repeat (first | exact .blk | exact .rng | apply Rng.tl)))))
       | (with_reducible refine vote.c1 ?_)
       | ((with_reducible apply vote.e1); (· first | exact hS | exact hid); (· (with_reducible (repeat (first | exact .blk | exact .rng | apply Rng.tl)))))
       | (with_reducible refine vote.a2 ?_)
       | ((with_reducible apply vote.r2 hs); (· (with_reducible (repeat (first | exact .blk | exact .rng | apply Rng.tl)))))
       | (with_reducible refine vote.c2 ?_)
       | ((with_reducible apply vote.e2); (· first | exact hS | exact hid); (· (with_reducible (repeat (first | exact .blk | exact .rng | apply Rng.tl)))))
       | (with_reducible refine vote.a3 ?_)
       | ((with_reducible apply vote.r3 hs); (· (with_reducible (repeat (first | exact .blk | exact .rng | apply Rng.tl)))); (· (with_reducible (first | assumption | exact z32 | exact u8s_len (by assumption)))))
       | (with_reducible refine vote.c3 ?_)
       | ((with_reducible apply vote.e3); (· first | exact hS | exact hid); (· (with_reducible (repeat (first | exact .blk | exact .rng | apply Rng.tl)))); (· (with_reducible (first | assumption | exact z32 | exact u8s_len (by assumption)))))
       | (with_reducible refine vote.a4 ?_)
       | ((with_reducible apply vote.r4 hs); (· (with_reducible (repeat (first | exact .blk | exact .rng | apply Rng.tl)))); (· (with_reducible (first | assumption | exact z32 | exact u8s_len (by assumption)))))
       | (with_reducible refine vote.c4 ?_)
       | ((with_reducible apply vote.e4); (· first | exact hS | exact hid); (· (with_reducible (repeat (first | exact .blk | exact .rng | apply Rng.tl)))); (· (with_reducible (first | assumption | exact z32 | exact u8s_len (by assumption)))))
       | (with_reducible refine vote.a5 ?_)
       | ((with_reducible apply vote.r5 hs); (· (with_reducible (repeat (first | exact .blk | exact .rng | apply Rng.tl)))); (· (with_reducible (first | assumption | exact z32 | exact u8s_len (by assumption)))))
       | (with_reducible refine vote.c5 ?_)
       | ((with_reducible apply vote.e5); (· first | exact hS | exact hid); (· (with_reducible (repeat (first | exact .blk | exact .rng | apply Rng.tl)))); (· (with_reducible (first | assumption | exact z32 | exact u8s_len (by assumption)))))
       | (with_reducible (first | refine st_lens ?_ | refine st_eqls ?_ | refine st_nels ?_ | refine tk_eqls ?_ | refine tk_nels ?_ | refine mv.mk ?_ | refine nk_p ?_ | refine gdT_i ?_ | refine gdT_ft ?_ | refine gdT_tf ?_ | refine gdT_u ?_ | refine gd_u ?_ | refine gd_ft ?_ | refine gd_tf ?_ | refine gd_i ?_ | refine pk_t ?_ | refine pk_f ?_ | refine br_t ?_ | refine br_f ?_ | refine sp_boxa hs fun g w hs => ?_))
       | (with_reducible ((first | apply st_bin | apply st_ext | apply st_len | apply st_un | apply st_conv | apply st_mki | apply st_fld | apply st_cap | apply st_max | apply st_min | apply st_ixv | apply st_mkf); intro k' hk; simp [go_sem, thenR_ok, bin]; refine hk _ _ ?_; clear hk k'))
       | ((with_reducible (first | apply tk_bin | apply tk_ext | apply tk_len | apply tk_un)); (· intro w; simp [go_sem, bin]; rfl))
       | ((with_reducible apply sp_newr hs); (· kernel_rfl); intro g w hs))
      generalize x.votes[i].validator = u at *
      generalize y.votes[k].validator = v at *
      by_cases d1 : u = v
      rotate_left
      · rw [show (u == v) = false by simpa using d1]
        repeat (first
         | (with_reducible (first | refine st_lens ?_ | refine st_eqls ?_ | refine st_nels ?_ | refine tk_eqls ?_ | refine tk_nels ?_ | refine mv.mk ?_ | refine nk_p ?_ | refine gdT_i ?_ | refine gdT_ft ?_ | refine gdT_tf ?_ | refine gdT_u ?_ | refine gd_u ?_ | refine gd_ft ?_ | refine gd_tf ?_ | refine gd_i ?_ | refine pk_t ?_ | refine pk_f ?_ | refine br_t ?_ | refine br_f ?_ | refine sp_boxa hs fun g w hs => ?_))
         | (with_reducible ((first | apply st_bin | apply st_ext | apply st_len | apply st_un | apply st_conv | apply st_mki | apply st_fld | apply st_cap | apply st_max | apply st_min | apply st_ixv | apply st_mkf); intro k' hk; simp [go_sem, thenR_ok, bin]; refine hk _ _ ?_; clear hk k'))
         | ((with_reducible (first | apply tk_bin | apply tk_ext | apply tk_len | apply tk_un)); (· intro w; simp [go_sem, bin]; rfl))
         | ((with_reducible apply sp_newr hs); (· kernel_rfl); intro g w hs))
        refine jn_by (fun us w' => us = [.int .i64 (thirdIn c.set u P (y.votes.take (k + 1)))] ∧ Isk.Sep b w' LL) (br_f ⟨by rw [hst, if_neg (fun h => d1 h.1)], hs'⟩) ?_
        rintro x3 w ⟨e, hs⟩
        simp only [List.cons.injEq, and_true] at e
        simp only [e]
        subst hLL
        repeat (first
         | (with_reducible (first | refine st_lens ?_ | refine st_eqls ?_ | refine st_nels ?_ | refine tk_eqls ?_ | refine tk_nels ?_ | refine mv.mk ?_ | refine nk_p ?_ | refine gdT_i ?_ | refine gdT_ft ?_ | refine gdT_tf ?_ | refine gdT_u ?_ | refine gd_u ?_ | refine gd_ft ?_ | refine gd_tf ?_ | refine gd_i ?_ | refine pk_t ?_ | refine pk_f ?_ | refine br_t ?_ | refine br_f ?_ | refine sp_boxa hs fun g w hs => ?_))
         | (with_reducible ((first | apply st_bin | apply st_ext | apply st_len | apply st_un | apply st_conv | apply st_mki | apply st_fld | apply st_cap | apply st_max | apply st_min | apply st_ixv | apply st_mkf); intro k' hk; simp [go_sem, thenR_ok, bin]; refine hk _ _ ?_; clear hk k'))
         | ((with_reducible (first | apply tk_bin | apply tk_ext | apply tk_len | apply tk_un)); (· intro w; simp [go_sem, bin]; rfl))
         | ((with_reducible apply sp_newr hs); (· kernel_rfl); intro g w hs))
        rw [i64_succ (by omega)]
        exact ⟨⟨k + 1, _, _, rfl, hk', rfl, hs⟩, by simp; omega⟩
      rw [show (u == v) = true by simpa using d1]
      repeat (first
       | (with_reducible (first | refine st_lens ?_ | refine st_eqls ?_ | refine st_nels ?_ | refine tk_eqls ?_ | refine tk_nels ?_ | refine mv.mk ?_ | refine nk_p ?_ | refine gdT_i ?_ | refine gdT_ft ?_ | refine gdT_tf ?_ | refine gdT_u ?_ | refine gd_u ?_ | refine gd_ft ?_ | refine gd_tf ?_ | refine gd_i ?_ | refine pk_t ?_ | refine pk_f ?_ | refine br_t ?_ | refine br_f ?_ | refine sp_boxa hs fun g w hs => ?_))
       | (with_reducible ((first | apply st_bin | apply st_ext | apply st_len | apply st_un | apply st_conv | apply st_mki | apply st_fld | apply st_cap | apply st_max | apply st_min | apply st_ixv | apply st_mkf); intro k' hk; simp [go_sem, thenR_ok, bin]; refine hk _ _ ?_; clear hk k'))
       | ((with_reducible (first | apply tk_bin | apply tk_ext | apply tk_len | apply tk_un)); (· intro w; simp [go_sem, bin]; rfl))
       | ((with_reducible apply sp_newr hs); (· kernel_rfl); intro g w hs))
      by_cases d2 : 0 ≤ u
      rotate_left
      · rw [show decide (0 ≤ u) = false from decide_eq_false d2]
        repeat (first
         | (with_reducible (first | refine st_lens ?_ | refine st_eqls ?_ | refine st_nels ?_ | refine tk_eqls ?_ | refine tk_nels ?_ | refine mv.mk ?_ | refine nk_p ?_ | refine gdT_i ?_ | refine gdT_ft ?_ | refine gdT_tf ?_ | refine gdT_u ?_ | refine gd_u ?_ | refine gd_ft ?_ | refine gd_tf ?_ | refine gd_i ?_ | refine pk_t ?_ | refine pk_f ?_ | refine br_t ?_ | refine br_f ?_ | refine sp_boxa hs fun g w hs => ?_))
         | (with_reducible ((first | apply st_bin | apply st_ext | apply st_len | apply st_un | apply st_conv | apply st_mki | apply st_fld | apply st_cap | apply st_max | apply st_min | apply st_ixv | apply st_mkf); intro k' hk; simp [go_sem, thenR_ok, bin]; refine hk _ _ ?_; clear hk k'))
         | ((with_reducible (first | apply tk_bin | apply tk_ext | apply tk_len | apply tk_un)); (· intro w; simp [go_sem, bin]; rfl))
         | ((with_reducible apply sp_newr hs); (· kernel_rfl); intro g w hs))
        refine jn_by (fun us w' => us = [.int .i64 (thirdIn c.set u P (y.votes.take (k + 1)))] ∧ Isk.Sep b w' LL) (br_f ⟨by rw [hst, if_neg (fun h => d2 h.2.1)], hs'⟩) ?_
        rintro x3 w ⟨e, hs⟩
        simp only [List.cons.injEq, and_true] at e
        simp only [e]
        subst hLL
        repeat (first
         | (with_reducible (first | refine st_lens ?_ | refine st_eqls ?_ | refine st_nels ?_ | refine tk_eqls ?_ | refine tk_nels ?_ | refine mv.mk ?_ | refine nk_p ?_ | refine gdT_i ?_ | refine gdT_ft ?_ | refine gdT_tf ?_ | refine gdT_u ?_ | refine gd_u ?_ | refine gd_ft ?_ | refine gd_tf ?_ | refine gd_i ?_ | refine pk_t ?_ | refine pk_f ?_ | refine br_t ?_ | refine br_f ?_ | refine sp_boxa hs fun g w hs => ?_))
         | (with_reducible ((first | apply st_bin | apply st_ext | apply st_len | apply st_un | apply st_conv | apply st_mki | apply st_fld | apply st_cap | apply st_max | apply st_min | apply st_ixv | apply st_mkf); intro k' hk; simp [go_sem, thenR_ok, bin]; refine hk _ _ ?_; clear hk k'))
         | ((with_reducible (first | apply tk_bin | apply tk_ext | apply tk_len | apply tk_un)); (· intro w; simp [go_sem, bin]; rfl))
         | ((with_reducible apply sp_newr hs); (· kernel_rfl); intro g w hs))
        rw [i64_succ (by omega)]
        exact ⟨⟨k + 1, _, _, rfl, hk', rfl, hs⟩, by simp; omega⟩
      rw [show decide (0 ≤ u) = true from decide_eq_true d2]
      repeat (first
       | (with_reducible refine case.a0 ?_)
       | ((with_reducible apply case.r0 hs); (· (with_reducible (repeat (first | exact .blk | exact .rng | apply Rng.tl)))))
       | (with_reducible refine case.c0 ?_)
       | ((with_reducible apply case.e0); (· first | exact hS | exact hid); (· (with_reducible (repeat (first | exact .blk | exact .rng | apply Rng.tl)))))
       | (with_reducible refine case.a1 ?_)
       | ((with_reducible apply case.r1 hs); (· (with_reducible (repeat (first | exact .blk | exact .rng | apply Rng.tl)))))
       | (with_reducible refine case.c1 ?_)
       | ((with_reducible apply case.e1); (· first | exact hS | exact hid); (· (with_reducible (repeat (first | exact .blk | exact .rng | apply Rng.tl)))))
       | (with_reducible refine case.a2 ?_)
       | ((with_reducible apply case.r2 hs); (· (with_reducible (repeat (first | exact .blk | exact .rng | apply Rng.tl)))); (· (with_reducible (first | assumption | exact z32 | exact u8s_len (by assumption)))))
       | (with_reducible refine case.c2 ?_)
       | ((with_reducible apply case.e2); (· first | exact hS | exact hid); (· (with_reducible (repeat (first | exact .blk | exact .rng | apply Rng.tl)))); (· (with_reducible (first | assumption | exact z32 | exact u8s_len (by assumption)))))
       | (with_reducible (first | refine st_lens ?_ | refine st_eqls ?_ | refine st_nels ?_ | refine tk_eqls ?_ | refine tk_nels ?_ | refine mv.mk ?_ | refine nk_p ?_ | refine gdT_i ?_ | refine gdT_ft ?_ | refine gdT_tf ?_ | refine gdT_u ?_ | refine gd_u ?_ | refine gd_ft ?_ | refine gd_tf ?_ | refine gd_i ?_ | refine pk_t ?_ | refine pk_f ?_ | refine br_t ?_ | refine br_f ?_ | refine sp_boxa hs fun g w hs => ?_))
       | (with_reducible ((first | apply st_bin | apply st_ext | apply st_len | apply st_un | apply st_conv | apply st_mki | apply st_fld | apply st_cap | apply st_max | apply st_min | apply st_ixv | apply st_mkf); intro k' hk; simp [go_sem, thenR_ok, bin]; refine hk _ _ ?_; clear hk k'))
       | ((with_reducible (first | apply tk_bin | apply tk_ext | apply tk_len | apply tk_un)); (· intro w; simp [go_sem, bin]; rfl))
       | ((with_reducible apply sp_newr hs); (· kernel_rfl); intro g w hs))
      by_cases d3 : u < c.set.length
      rotate_left
      · rw [show decide (u < (c.set.length : Int)) = false from decide_eq_false d3]
        repeat (first
         | (with_reducible (first | refine st_lens ?_ | refine st_eqls ?_ | refine st_nels ?_ | refine tk_eqls ?_ | refine tk_nels ?_ | refine mv.mk ?_ | refine nk_p ?_ | refine gdT_i ?_ | refine gdT_ft ?_ | refine gdT_tf ?_ | refine gdT_u ?_ | refine gd_u ?_ | refine gd_ft ?_ | refine gd_tf ?_ | refine gd_i ?_ | refine pk_t ?_ | refine pk_f ?_ | refine br_t ?_ | refine br_f ?_ | refine sp_boxa hs fun g w hs => ?_))
         | (with_reducible ((first | apply st_bin | apply st_ext | apply st_len | apply st_un | apply st_conv | apply st_mki | apply st_fld | apply st_cap | apply st_max | apply st_min | apply st_ixv | apply st_mkf); intro k' hk; simp [go_sem, thenR_ok, bin]; refine hk _ _ ?_; clear hk k'))
         | ((with_reducible (first | apply tk_bin | apply tk_ext | apply tk_len | apply tk_un)); (· intro w; simp [go_sem, bin]; rfl))
         | ((with_reducible apply sp_newr hs); (· kernel_rfl); intro g w hs))
        refine jn_by (fun us w' => us = [.int .i64 (thirdIn c.set u P (y.votes.take (k + 1)))] ∧ Isk.Sep b w' LL) (br_f ⟨by rw [hst, if_neg (fun h => d3 h.2.2)], hs'⟩) ?_
        rintro x3 w ⟨e, hs⟩
        simp only [List.cons.injEq, and_true] at e
        simp only [e]
        subst hLL
        repeat (first
         | (with_reducible (first | refine st_lens ?_ | refine st_eqls ?_ | refine st_nels ?_ | refine tk_eqls ?_ | refine tk_nels ?_ | refine mv.mk ?_ | refine nk_p ?_ | refine gdT_i ?_ | refine gdT_ft ?_ | refine gdT_tf ?_ | refine gdT_u ?_ | refine gd_u ?_ | refine gd_ft ?_ | refine gd_tf ?_ | refine gd_i ?_ | refine pk_t ?_ | refine pk_f ?_ | refine br_t ?_ | refine br_f ?_ | refine sp_boxa hs fun g w hs => ?_))
         | (with_reducible ((first | apply st_bin | apply st_ext | apply st_len | apply st_un | apply st_conv | apply st_mki | apply st_fld | apply st_cap | apply st_max | apply st_min | apply st_ixv | apply st_mkf); intro k' hk; simp [go_sem, thenR_ok, bin]; refine hk _ _ ?_; clear hk k'))
         | ((with_reducible (first | apply tk_bin | apply tk_ext | apply tk_len | apply tk_un)); (· intro w; simp [go_sem, bin]; rfl))
         | ((with_reducible apply sp_newr hs); (· kernel_rfl); intro g w hs))
        rw [i64_succ (by omega)]
        exact ⟨⟨k + 1, _, _, rfl, hk', rfl, hs⟩, by simp; omega⟩
      rw [show decide (u < (c.set.length : Int)) = true from decide_eq_true d3]
      repeat (first
       | (with_reducible (first | refine st_lens ?_ | refine st_eqls ?_ | refine st_nels ?_ | refine tk_eqls ?_ | refine tk_nels ?_ | refine mv.mk ?_ | refine nk_p ?_ | refine gdT_i ?_ | refine gdT_ft ?_ | refine gdT_tf ?_ | refine gdT_u ?_ | refine gd_u ?_ | refine gd_ft ?_ | refine gd_tf ?_ | refine gd_i ?_ | refine pk_t ?_ | refine pk_f ?_ | refine br_t ?_ | refine br_f ?_ | refine sp_boxa hs fun g w hs => ?_))
       | (with_reducible ((first | apply st_bin | apply st_ext | apply st_len | apply st_un | apply st_conv | apply st_mki | apply st_fld | apply st_cap | apply st_max | apply st_min | apply st_ixv | apply st_mkf); intro k' hk; simp [go_sem, thenR_ok, bin]; refine hk _ _ ?_; clear hk k'))
       | ((with_reducible (first | apply tk_bin | apply tk_ext | apply tk_len | apply tk_un)); (· intro w; simp [go_sem, bin]; rfl))
       | ((with_reducible apply sp_newr hs); (· kernel_rfl); intro g w hs))
      refine jn_by (fun us w' => us = [.int .i64 (thirdIn c.set u P (y.votes.take (k + 1)))] ∧ Isk.Sep b w' LL) (br_t ?_) ?_
      · repeat (first
         | (with_reducible refine case.a0 ?_)
         | ((with_reducible apply case.r0 hs); (· (with_reducible (repeat (first | exact .blk | exact .rng | apply Rng.tl)))))
         | (with_reducible refine case.c0 ?_)
         | ((with_reducible apply case.e0); (· first | exact hS | exact hid); (· (with_reducible (repeat (first | exact .blk | exact .rng | apply Rng.tl)))))
         | (with_reducible refine case.a1 ?_)
         | ((with_reducible apply case.r1 hs); (· (with_reducible (repeat (first | exact .blk | exact .rng | apply Rng.tl)))))
         | (with_reducible refine case.c1 ?_)
         | ((with_reducible apply case.e1); (· first | exact hS | exact hid); (· (with_reducible (repeat (first | exact .blk | exact .rng | apply Rng.tl)))))
         | (with_reducible refine case.a2 ?_)
         | ((with_reducible apply case.r2 hs); (· (with_reducible (repeat (first | exact .blk | exact .rng | apply Rng.tl)))); (· (with_reducible (first | assumption | exact z32 | exact u8s_len (by assumption)))))
         | (with_reducible refine case.c2 ?_)
         | ((with_reducible apply case.e2); (· first | exact hS | exact hid); (· (with_reducible (repeat (first | exact .blk | exact .rng | apply Rng.tl)))); (· (with_reducible (first | assumption | exact z32 | exact u8s_len (by assumption)))))
         | (with_reducible (first | refine st_lens ?_ | refine st_eqls ?_ | refine st_nels ?_ | refine tk_eqls ?_ | refine tk_nels ?_ | refine mv.mk ?_ | refine nk_p ?_ | refine gdT_i ?_ | refine gdT_ft ?_ | refine gdT_tf ?_ | refine gdT_u ?_ | refine gd_u ?_ | refine gd_ft ?_ | refine gd_tf ?_ | refine gd_i ?_ | refine pk_t ?_ | refine pk_f ?_ | refine br_t ?_ | refine br_f ?_ | refine sp_boxa hs fun g w hs => ?_))
         | (with_reducible ((first | apply st_bin | apply st_ext | apply st_len | apply st_un | apply st_conv | apply st_mki | apply st_fld | apply st_cap | apply st_max | apply st_min | apply st_ixv | apply st_mkf); intro k' hk; simp [go_sem, thenR_ok, bin]; refine hk _ _ ?_; clear hk k'))
         | ((with_reducible (first | apply tk_bin | apply tk_ext | apply tk_len | apply tk_un)); (· intro w; simp [go_sem, bin]; rfl))
         | ((with_reducible apply sp_newr hs); (· kernel_rfl); intro g w hs))
        have hlt : u.toNat < c.set.length := by omega
        have hlt2 : u = (u.toNat : Int) := by omega
        obtain ⟨g9, o9, zs, hrun, hzl, hs⟩ := hs.el (F := valiF) (sv := .slice A1 c.set.length k1) (ls := c.set) (by repeat (first | with_reducible exact Ins.hd | with_reducible apply Ins.tl)) tVals _ hlt
        obtain ⟨rfl, hzo⟩ := vali_of hs (x := c.set[u.toNat]) (by repeat (first | with_reducible exact Ins.hd | with_reducible apply Ins.tl))
        have hxk := hzo.key
        rw [← hlt2] at hrun
        have hpw : powerOf c.set u = c.set[u.toNat].power := by unfold powerOf; rw [List.getElem?_eq_getElem hlt]
        refine st_of (hrun .i64 _) ?_
        repeat (first
         | (with_reducible refine vali.a0 ?_)
         | ((with_reducible apply vali.r0 hs); (· (with_reducible (repeat (first | exact .blk | exact .rng | apply Rng.tl)))))
         | (with_reducible refine vali.c0 ?_)
         | ((with_reducible apply vali.e0); (· first | exact hS | exact hid); (· (with_reducible (repeat (first | exact .blk | exact .rng | apply Rng.tl)))))
         | (with_reducible refine vali.a1 ?_)
         | ((with_reducible apply vali.r1 hs); (· (with_reducible (repeat (first | exact .blk | exact .rng | apply Rng.tl)))); (· (with_reducible (first | assumption | exact z32 | exact u8s_len (by assumption)))))
         | (with_reducible refine vali.c1 ?_)
         | ((with_reducible apply vali.e1); (· first | exact hS | exact hid); (· (with_reducible (repeat (first | exact .blk | exact .rng | apply Rng.tl)))); (· (with_reducible (first | assumption | exact z32 | exact u8s_len (by assumption)))))
         | (with_reducible refine vali.a2 ?_)
         | ((with_reducible apply vali.r2 hs); (· (with_reducible (repeat (first | exact .blk | exact .rng | apply Rng.tl)))); (· (with_reducible (first | assumption | exact z32 | exact u8s_len (by assumption)))))
         | (with_reducible refine vali.c2 ?_)
         | ((with_reducible apply vali.e2); (· first | exact hS | exact hid); (· (with_reducible (repeat (first | exact .blk | exact .rng | apply Rng.tl)))); (· (with_reducible (first | assumption | exact z32 | exact u8s_len (by assumption)))))
         | (with_reducible (first | refine st_lens ?_ | refine st_eqls ?_ | refine st_nels ?_ | refine tk_eqls ?_ | refine tk_nels ?_ | refine mv.mk ?_ | refine nk_p ?_ | refine gdT_i ?_ | refine gdT_ft ?_ | refine gdT_tf ?_ | refine gdT_u ?_ | refine gd_u ?_ | refine gd_ft ?_ | refine gd_tf ?_ | refine gd_i ?_ | refine pk_t ?_ | refine pk_f ?_ | refine br_t ?_ | refine br_f ?_ | refine sp_boxa hs fun g w hs => ?_))
         | (with_reducible ((first | apply st_bin | apply st_ext | apply st_len | apply st_un | apply st_conv | apply st_mki | apply st_fld | apply st_cap | apply st_max | apply st_min | apply st_ixv | apply st_mkf); intro k' hk; simp [go_sem, thenR_ok, bin]; refine hk _ _ ?_; clear hk k'))
         | ((with_reducible (first | apply tk_bin | apply tk_ext | apply tk_len | apply tk_un)); (· intro w; simp [go_sem, bin]; rfl))
         | ((with_reducible apply sp_newr hs); (· kernel_rfl); intro g w hs))
        exact ⟨by rw [hst, if_pos ⟨d1, d2, d3⟩, hpw], hs'⟩
      · rintro x3 w ⟨e, hs⟩
        simp only [List.cons.injEq, and_true] at e
        simp only [e]
        subst hLL
        repeat (first
         | (with_reducible (first | refine st_lens ?_ | refine st_eqls ?_ | refine st_nels ?_ | refine tk_eqls ?_ | refine tk_nels ?_ | refine mv.mk ?_ | refine nk_p ?_ | refine gdT_i ?_ | refine gdT_ft ?_ | refine gdT_tf ?_ | refine gdT_u ?_ | refine gd_u ?_ | refine gd_ft ?_ | refine gd_tf ?_ | refine gd_i ?_ | refine pk_t ?_ | refine pk_f ?_ | refine br_t ?_ | refine br_f ?_ | refine sp_boxa hs fun g w hs => ?_))
         | (with_reducible ((first | apply st_bin | apply st_ext | apply st_len | apply st_un | apply st_conv | apply st_mki | apply st_fld | apply st_cap | apply st_max | apply st_min | apply st_ixv | apply st_mkf); intro k' hk; simp [go_sem, thenR_ok, bin]; refine hk _ _ ?_; clear hk k'))
         | ((with_reducible (first | apply tk_bin | apply tk_ext | apply tk_len | apply tk_un)); (· intro w; simp [go_sem, bin]; rfl))
         | ((with_reducible apply sp_newr hs); (· kernel_rfl); intro g w hs))
        rw [i64_succ (by omega)]
        exact ⟨⟨k + 1, _, _, rfl, hk', rfl, hs⟩, by simp; omega⟩
    · obtain rfl : k = y.votes.length := by have := of_decide_eq_false hq; omega
      rw [List.take_length] at hP'
      repeat (first
       | (with_reducible (first | refine st_lens ?_ | refine st_eqls ?_ | refine st_nels ?_ | refine tk_eqls ?_ | refine tk_nels ?_ | refine mv.mk ?_ | refine nk_p ?_ | refine gdT_i ?_ | refine gdT_ft ?_ | refine gdT_tf ?_ | refine gdT_u ?_ | refine gd_u ?_ | refine gd_ft ?_ | refine gd_tf ?_ | refine gd_i ?_ | refine pk_t ?_ | refine pk_f ?_ | refine br_t ?_ | refine br_f ?_ | refine sp_boxa hs fun g w hs => ?_))
       | (with_reducible ((first | apply st_bin | apply st_ext | apply st_len | apply st_un | apply st_conv | apply st_mki | apply st_fld | apply st_cap | apply st_max | apply st_min | apply st_ixv | apply st_mkf); intro k' hk; simp [go_sem, thenR_ok, bin]; refine hk _ _ ?_; clear hk k'))
       | ((with_reducible (first | apply tk_bin | apply tk_ext | apply tk_len | apply tk_un)); (· intro w; simp [go_sem, bin]; rfl))
       | ((with_reducible apply sp_newr hs); (· kernel_rfl); intro g w hs))
      rw [i64_succ (by omega)]
      refine ⟨⟨i + 1, .int .i64 (y.votes.length : Int), q, ?_, hi', hs⟩, by simp; omega⟩
      have e5 : third c.set (x.votes.take (i + 1)) y.votes = P' := by rw [third, foldl_take _ _ hi', ← third, hP, hP']
      rw [e5]
  · obtain rfl : i = x.votes.length := by have := of_decide_eq_false hq; omega
    rw [List.take_length]
    repeat (first
     | (with_reducible refine case.a0 ?_)
     | ((with_reducible apply case.r0 hs); (· (with_reducible (repeat (first | exact .blk | exact .rng | apply Rng.tl)))))
     | (with_reducible refine case.c0 ?_)
     | ((with_reducible apply case.e0); (· first | exact hS | exact hid); (· (with_reducible (repeat (first | exact .blk | exact .rng | apply Rng.tl)))))
     | (with_reducible refine case.a1 ?_)
     | ((with_reducible apply case.r1 hs); (· (with_reducible (repeat (first | exact .blk | exact .rng | apply Rng.tl)))))
     | (with_reducible refine case.c1 ?_)
     | ((with_reducible apply case.e1); (· first | exact hS | exact hid); (· (with_reducible (repeat (first | exact .blk | exact .rng | apply Rng.tl)))))
     | (with_reducible refine case.a2 ?_)
     | ((with_reducible apply case.r2 hs); (· (with_reducible (repeat (first | exact .blk | exact .rng | apply Rng.tl)))); (· (with_reducible (first | assumption | exact z32 | exact u8s_len (by assumption)))))
     | (with_reducible refine case.c2 ?_)
     | ((with_reducible apply case.e2); (· first | exact hS | exact hid); (· (with_reducible (repeat (first | exact .blk | exact .rng | apply Rng.tl)))); (· (with_reducible (first | assumption | exact z32 | exact u8s_len (by assumption)))))
     | (with_reducible (first | refine st_lens ?_ | refine st_eqls ?_ | refine st_nels ?_ | refine tk_eqls ?_ | refine tk_nels ?_ | refine mv.mk ?_ | refine nk_p ?_ | refine gdT_i ?_ | refine gdT_ft ?_ | refine gdT_tf ?_ | refine gdT_u ?_ | refine gd_u ?_ | refine gd_ft ?_ | refine gd_tf ?_ | refine gd_i ?_ | refine pk_t ?_ | refine pk_f ?_ | refine br_t ?_ | refine br_f ?_ | refine sp_boxa hs fun g w hs => ?_))
     | (with_reducible ((first | apply st_bin | apply st_ext | apply st_len | apply st_un | apply st_conv | apply st_mki | apply st_fld | apply st_cap | apply st_max | apply st_min | apply st_ixv | apply st_mkf); intro k' hk; simp [go_sem, thenR_ok, bin]; refine hk _ _ ?_; clear hk k'))
     | ((with_reducible (first | apply tk_bin | apply tk_ext | apply tk_len | apply tk_un)); (· intro w; simp [go_sem, bin]; rfl))
     | ((with_reducible apply sp_newr hs); (· kernel_rfl); intro g w hs))
    refine cl (types_Total hs (l := c.set) (by repeat (first | with_reducible exact Lst.lst | with_reducible exact Lst.gr | with_reducible apply Lst.tl)) (by omega)) ?_
    rintro _ w ⟨rfl, hs⟩
    repeat (first
     | (with_reducible (first | refine st_lens ?_ | refine st_eqls ?_ | refine st_nels ?_ | refine tk_eqls ?_ | refine tk_nels ?_ | refine mv.mk ?_ | refine nk_p ?_ | refine gdT_i ?_ | refine gdT_ft ?_ | refine gdT_tf ?_ | refine gdT_u ?_ | refine gd_u ?_ | refine gd_ft ?_ | refine gd_tf ?_ | refine gd_i ?_ | refine pk_t ?_ | refine pk_f ?_ | refine br_t ?_ | refine br_f ?_ | refine sp_boxa hs fun g w hs => ?_))
     | (with_reducible ((first | apply st_bin | apply st_ext | apply st_len | apply st_un | apply st_conv | apply st_mki | apply st_fld | apply st_cap | apply st_max | apply st_min | apply st_ixv | apply st_mkf); intro k' hk; simp [go_sem, thenR_ok, bin]; refine hk _ _ ?_; clear hk k'))
     | ((with_reducible (first | apply tk_bin | apply tk_ext | apply tk_len | apply tk_un)); (· intro w; simp [go_sem, bin]; rfl))
     | ((with_reducible apply sp_newr hs); (· kernel_rfl); intro g w hs))
    rw [decide_eq_true hth]
    repeat (first
     | (with_reducible (first | refine st_lens ?_ | refine st_eqls ?_ | refine st_nels ?_ | refine tk_eqls ?_ | refine tk_nels ?_ | refine mv.mk ?_ | refine nk_p ?_ | refine gdT_i ?_ | refine gdT_ft ?_ | refine gdT_tf ?_ | refine gdT_u ?_ | refine gd_u ?_ | refine gd_ft ?_ | refine gd_tf ?_ | refine gd_i ?_ | refine pk_t ?_ | refine pk_f ?_ | refine br_t ?_ | refine br_f ?_ | refine sp_boxa hs fun g w hs => ?_))
     | (with_reducible ((first | apply st_bin | apply st_ext | apply st_len | apply st_un | apply st_conv | apply st_mki | apply st_fld | apply st_cap | apply st_max | apply st_min | apply st_ixv | apply st_mkf); intro k' hk; simp [go_sem, thenR_ok, bin]; refine hk _ _ ?_; clear hk k'))
     | ((with_reducible (first | apply tk_bin | apply tk_ext | apply tk_len | apply tk_un)); (· intro w; simp [go_sem, bin]; rfl))
     | ((with_reducible apply sp_newr hs); (· kernel_rfl); intro g w hs))
    refine cl (isthmuslaw11_sure hs (.tl (.tl (.tl (.tl (.tl (.tl (.tl hT)))))))) ?_
    rintro _ w ⟨rfl, hs⟩
    repeat (first
     | (with_reducible (first | refine st_lens ?_ | refine st_eqls ?_ | refine st_nels ?_ | refine tk_eqls ?_ | refine tk_nels ?_ | refine mv.mk ?_ | refine nk_p ?_ | refine gdT_i ?_ | refine gdT_ft ?_ | refine gdT_tf ?_ | refine gdT_u ?_ | refine gd_u ?_ | refine gd_ft ?_ | refine gd_tf ?_ | refine gd_i ?_ | refine pk_t ?_ | refine pk_f ?_ | refine br_t ?_ | refine br_f ?_ | refine sp_boxa hs fun g w hs => ?_))
     | (with_reducible ((first | apply st_bin | apply st_ext | apply st_len | apply st_un | apply st_conv | apply st_mki | apply st_fld | apply st_cap | apply st_max | apply st_min | apply st_ixv | apply st_mkf); intro k' hk; simp [go_sem, thenR_ok, bin]; refine hk _ _ ?_; clear hk k'))
     | ((with_reducible (first | apply tk_bin | apply tk_ext | apply tk_len | apply tk_un)); (· intro w; simp [go_sem, bin]; rfl))
     | ((with_reducible apply sp_newr hs); (· kernel_rfl); intro g w hs))
    exact ⟨rfl, hs.sbl (.drop (.drop (.drop (.drop (.drop (.drop (.drop .all)))))))⟩
end
end Go.Proofs.YtlfelmikcdmkhaaDoor
