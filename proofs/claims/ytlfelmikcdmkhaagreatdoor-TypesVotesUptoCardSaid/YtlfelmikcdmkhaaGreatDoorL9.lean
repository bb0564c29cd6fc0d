/- Layer 11's law TypesThird, walked. -/
import Derived.Test.YtlfelmikcdmkhaaGreatDoorCP
import Derived.Test.YtlfelmikcdmkhaaGreatDoorQ9
set_option linter.unusedVariables false
set_option linter.unusedSimpArgs false
set_option linter.unusedSectionVars false
namespace Go.Proofs.YtlfelmikcdmkhaaGreatDoor
open Go Go.Isk Go.RowKit
set_option maxRecDepth 20000
section
variable {b : Base} {w : World} {L R : List It} {cs ds es : List Value} {c : CaseD} {x y : Commit} {α : Type}
theorem case_open (hs : Isk.Sep b w L) (hm : Ins L (caseF cs c).it) : ∃ A k, cs = caseV c (.slice A c.set.length k) ∧ I64 c.dg ∧ I64 c.dp ∧ Isk.Sep b w ((listF valiF 34 (.slice A c.set.length k) c.set).it :: L) := by
  obtain ⟨vv, rfl, hco, hvs⟩ : CaseS _ _ _ c := hs.get hm
  obtain ⟨A, k, rfl⟩ := (hs.fact (f := listF valiF 34 vv c.set) hvs).lst_len .lst
  exact ⟨A, k, rfl, hco.1, hco.2, hs.fact hvs⟩
end
end Go.Proofs.YtlfelmikcdmkhaaGreatDoor
set_option linter.unusedVariables false
set_option linter.unusedSimpArgs false
set_option linter.unusedSectionVars false
namespace Go.Proofs.YtlfelmikcdmkhaaGreatDoor
open Go Go.Isk Go.RowKit
set_option maxRecDepth 20000
section
variable {b : Base} {w : World} {L R : List It} {cs ds es : List Value} {c : CaseD} {x y : Vote}
set_option maxHeartbeats 4000000 in
theorem isthmuslaw11_TypesVotes (hs : Isk.Sep b w L) (hT : Ins L errT.it) (hR : Ins L rndF.it) (hc : Ins L (caseF cs c).it) (hx : Ins L (voteF ds x).it) (hy : Ins L (voteF es y).it)
    (hb1 : c.chain.length ≤ 1048576) (hb3 : x.sign.length ≤ 1048576) (hb4 : y.sign.length ≤ 1048576) :
    C Tryz.prog N.isthmuslaw11_TypesVotes #[.agg cs.toArray, .agg ds.toArray, .agg es.toArray] w fun r w' => r = .bool true ∧ Isk.Sep b w' L := by
  have hvx := hs.ok voteF_ok hx
  have hvy := hs.ok voteF_ok hy
  obtain ⟨_, _, hox, _⟩ : VoteS _ _ ds x := hs.get hx
  obtain ⟨_, _, hoy, _⟩ : VoteS _ _ es y := hs.get hy
  have lx := voteBytes_len hox hb1
  have ly := voteBytes_len hoy hb1
  obtain ⟨A1, k1, e1, i1, i2, hs⟩ := case_open hs hc
  subst e1
  have hpl : ([.int .i64 c.dg, .int .i64 c.dp] : List Value).length = 2 := rfl
  refine C.isthmuslaw11_TypesVotes ?_
  unfold F.isthmuslaw11_TypesVotes
  refine sp_boxa hs fun g3 w hs => ?_
  refine sp_boxa hs fun g4 w hs => ?_
  refine sp_boxa hs fun g5 w hs => ?_
  repeat (first
   | (with_reducible refine case.a0 ?_)
   | ((with_reducible apply case.r0 hs); (· (with_reducible (repeat (first | exact .blk | exact .rng | apply Rng.tl)))))
   | (with_reducible refine case.c0 ?_)
   | ((with_reducible apply case.e0); (· first | exact hS | exact hid); (· (with_reducible (repeat (first | exact .blk | exact .rng | apply Rng.tl)))))
   | (with_reducible refine case.a1 ?_)
   | ((with_reducible apply case.r1 hs); (· (with_reducible (repeat (first | exact .blk | exact .rng | apply Rng.tl)))))
   | (with_reducible refine case.c1 ?_)
   | ((with_reducible apply case.e1); (· first | exact hS | exact hid); (· (with_reducible (repeat (first | exact .blk | exact .rng | apply Rng.tl)))))
   | (with_reducible refine case.a2 ?_)
   | ((with_reducible apply case.r2 hs); (· (with_reducible (repeat (first | exact .blk | exact .rng | apply Rng.tl)))); (· (with_reducible (first | assumption | exact z32 | exact u8s_len (by assumption)))))
   | (with_reducible refine case.c2 ?_)
   | ((with_reducible apply case.e2); (· first | exact hS | exact hid); (· (with_reducible (repeat (first | exact .blk | exact .rng | apply Rng.tl)))); (· (with_reducible (first | assumption | exact z32 | exact u8s_len (by assumption)))))
   | (with_reducible (first | refine st_eqls ?_ | refine tk_eqls ?_ | refine mv.mk ?_ | refine gdT_i ?_ | refine gdT_ft ?_ | refine gdT_tf ?_ | refine gdT_u ?_ | refine gd_u ?_ | refine gd_ft ?_ | refine gd_tf ?_ | refine gd_i ?_ | refine pk_t ?_ | refine pk_f ?_ | refine sp_boxa hs fun g w hs => ?_))
   | (with_reducible ((first | apply st_bin | apply st_conv); intro k' hk; simp [go_sem, thenR_ok, bin]; refine hk _ _ ?_; clear hk k'))
   | ((with_reducible (first | apply tk_bin)); (· intro w; simp [go_sem, bin]; rfl))
   | ((with_reducible apply sp_newr hs); (· kernel_rfl); intro g w hs))
  refine cl (isthmuslaw11_cut hs) ?_
  rintro _ w ⟨rfl, hs⟩
  generalize hdp : cutD c.dp = dp at *
  refine sp_newr hs (by kernel_rfl) fun g7 w hs => ?_
  refine sp_setr (ds := [.int .i64 c.dg, .int .i64 dp]) hs .hd (by kernel_rfl) rfl (by simp [Value.oneCell']) fun w hs => ?_
  replace hs := hs.fact (f := errT) (hs.get (by repeat (first | exact hT | apply Ins.tl)))
  replace hs := hs.fact (f := rndF) (hs.get (by repeat (first | exact hR | apply Ins.tl)))
  replace hs := hs.fact (f := voteF ds x) (hs.get (by repeat (first | exact hx | apply Ins.tl)))
  replace hs := hs.fact (f := voteF es y) (hs.get (by repeat (first | exact hy | apply Ins.tl)))
  replace hs := hs.drew
  refine dr_can hs .all ?_
  repeat (first
   | (with_reducible refine case.a0 ?_)
   | ((with_reducible apply case.r0 hs); (· (with_reducible (repeat (first | exact .blk | exact .rng | apply Rng.tl)))))
   | (with_reducible refine case.c0 ?_)
   | ((with_reducible apply case.e0); (· first | exact hS | exact hid); (· (with_reducible (repeat (first | exact .blk | exact .rng | apply Rng.tl)))))
   | (with_reducible refine case.a1 ?_)
   | ((with_reducible apply case.r1 hs); (· (with_reducible (repeat (first | exact .blk | exact .rng | apply Rng.tl)))))
   | (with_reducible refine case.c1 ?_)
   | ((with_reducible apply case.e1); (· first | exact hS | exact hid); (· (with_reducible (repeat (first | exact .blk | exact .rng | apply Rng.tl)))))
   | (with_reducible refine case.a2 ?_)
   | ((with_reducible apply case.r2 hs); (· (with_reducible (repeat (first | exact .blk | exact .rng | apply Rng.tl)))); (· (with_reducible (first | assumption | exact z32 | exact u8s_len (by assumption)))))
   | (with_reducible refine case.c2 ?_)
   | ((with_reducible apply case.e2); (· first | exact hS | exact hid); (· (with_reducible (repeat (first | exact .blk | exact .rng | apply Rng.tl)))); (· (with_reducible (first | assumption | exact z32 | exact u8s_len (by assumption)))))
   | (with_reducible (first | refine st_eqls ?_ | refine tk_eqls ?_ | refine mv.mk ?_ | refine gdT_i ?_ | refine gdT_ft ?_ | refine gdT_tf ?_ | refine gdT_u ?_ | refine gd_u ?_ | refine gd_ft ?_ | refine gd_tf ?_ | refine gd_i ?_ | refine pk_t ?_ | refine pk_f ?_ | refine sp_boxa hs fun g w hs => ?_))
   | (with_reducible ((first | apply st_bin | apply st_conv); intro k' hk; simp [go_sem, thenR_ok, bin]; refine hk _ _ ?_; clear hk k'))
   | ((with_reducible (first | apply tk_bin)); (· intro w; simp [go_sem, bin]; rfl))
   | ((with_reducible apply sp_newr hs); (· kernel_rfl); intro g w hs))
  refine tk_ldn hid (by repeat (first | with_reducible exact Rng.blk | with_reducible exact Rng.rng | with_reducible apply Rng.tl)) (by kernel_rfl) rfl ?_
  refine tk_ldn hid (cs := ds) (by repeat (first | with_reducible exact Rng.blk | with_reducible exact Rng.rng | with_reducible apply Rng.tl)) (by kernel_rfl) hvx.1 ?_
  repeat (first
   | (with_reducible refine case.a0 ?_)
   | ((with_reducible apply case.r0 hs); (· (with_reducible (repeat (first | exact .blk | exact .rng | apply Rng.tl)))))
   | (with_reducible refine case.c0 ?_)
   | ((with_reducible apply case.e0); (· first | exact hS | exact hid); (· (with_reducible (repeat (first | exact .blk | exact .rng | apply Rng.tl)))))
   | (with_reducible refine case.a1 ?_)
   | ((with_reducible apply case.r1 hs); (· (with_reducible (repeat (first | exact .blk | exact .rng | apply Rng.tl)))))
   | (with_reducible refine case.c1 ?_)
   | ((with_reducible apply case.e1); (· first | exact hS | exact hid); (· (with_reducible (repeat (first | exact .blk | exact .rng | apply Rng.tl)))))
   | (with_reducible refine case.a2 ?_)
   | ((with_reducible apply case.r2 hs); (· (with_reducible (repeat (first | exact .blk | exact .rng | apply Rng.tl)))); (· (with_reducible (first | assumption | exact z32 | exact u8s_len (by assumption)))))
   | (with_reducible refine case.c2 ?_)
   | ((with_reducible apply case.e2); (· first | exact hS | exact hid); (· (with_reducible (repeat (first | exact .blk | exact .rng | apply Rng.tl)))); (· (with_reducible (first | assumption | exact z32 | exact u8s_len (by assumption)))))
   | (with_reducible (first | refine st_eqls ?_ | refine tk_eqls ?_ | refine mv.mk ?_ | refine gdT_i ?_ | refine gdT_ft ?_ | refine gdT_tf ?_ | refine gdT_u ?_ | refine gd_u ?_ | refine gd_ft ?_ | refine gd_tf ?_ | refine gd_i ?_ | refine pk_t ?_ | refine pk_f ?_ | refine sp_boxa hs fun g w hs => ?_))
   | (with_reducible ((first | apply st_bin | apply st_conv); intro k' hk; simp [go_sem, thenR_ok, bin]; refine hk _ _ ?_; clear hk k'))
   | ((with_reducible (first | apply tk_bin)); (· intro w; simp [go_sem, bin]; rfl))
   | ((with_reducible apply sp_newr hs); (· kernel_rfl); intro g w hs))
  refine tk_ldn hid (by repeat (first | with_reducible exact Rng.blk | with_reducible exact Rng.rng | with_reducible apply Rng.tl)) (by kernel_rfl) rfl ?_
  refine tk_ldn hid (cs := ds) (by repeat (first | with_reducible exact Rng.blk | with_reducible exact Rng.rng | with_reducible apply Rng.tl)) (by kernel_rfl) hvx.1 ?_
  refine cl (types_VerifyVote (l := c.set) (v := x) (chain := c.chain) hs (by repeat (first | with_reducible exact Ins.hd | with_reducible apply Ins.tl)) (by repeat (first | with_reducible exact Ins.hd | with_reducible apply Ins.tl)) (by repeat (first | with_reducible exact Ins.hd | with_reducible apply Ins.tl)) (by omega) (by omega)) ?_
  rintro e w hs
  refine ⟨hs.mayr (.drop .all), ?_⟩
  refine cl (isthmuslaw11_num hs (by repeat (first | with_reducible exact Ins.hd | with_reducible apply Ins.tl)) .hd) ?_
  rintro _ w ⟨rfl, hs⟩
  replace hs := hs.drop .hd
  refine ⟨hs.mayr .all, ?_⟩
  refine cl (isthmusref11_VerifyVote (l := c.set) (v := x) (chain := c.chain) hs (by repeat (first | with_reducible exact Ins.hd | with_reducible apply Ins.tl)) (by repeat (first | with_reducible exact Ins.hd | with_reducible apply Ins.tl)) (by omega) (by omega)) ?_
  rintro _ w ⟨rfl, hs⟩
  refine ⟨hs.mayr .all, ?_⟩
  repeat (first
   | (with_reducible refine case.a0 ?_)
   | ((with_reducible apply case.r0 hs); (· (with_reducible (repeat (first | exact .blk | exact .rng | apply Rng.tl)))))
   | (with_reducible refine case.c0 ?_)
   | ((with_reducible apply case.e0); (· first | exact hS | exact hid); (· (with_reducible (repeat (first | exact .blk | exact .rng | apply Rng.tl)))))
   | (with_reducible refine case.a1 ?_)
   | ((with_reducible apply case.r1 hs); (· (with_reducible (repeat (first | exact .blk | exact .rng | apply Rng.tl)))))
   | (with_reducible refine case.c1 ?_)
   | ((with_reducible apply case.e1); (· first | exact hS | exact hid); (· (with_reducible (repeat (first | exact .blk | exact .rng | apply Rng.tl)))))
   | (with_reducible refine case.a2 ?_)
   | ((with_reducible apply case.r2 hs); (· (with_reducible (repeat (first | exact .blk | exact .rng | apply Rng.tl)))); (· (with_reducible (first | assumption | exact z32 | exact u8s_len (by assumption)))))
   | (with_reducible refine case.c2 ?_)
   | ((with_reducible apply case.e2); (· first | exact hS | exact hid); (· (with_reducible (repeat (first | exact .blk | exact .rng | apply Rng.tl)))); (· (with_reducible (first | assumption | exact z32 | exact u8s_len (by assumption)))))
   | (with_reducible (first | refine st_eqls ?_ | refine tk_eqls ?_ | refine mv.mk ?_ | refine gdT_i ?_ | refine gdT_ft ?_ | refine gdT_tf ?_ | refine gdT_u ?_ | refine gd_u ?_ | refine gd_ft ?_ | refine gd_tf ?_ | refine gd_i ?_ | refine pk_t ?_ | refine pk_f ?_ | refine sp_boxa hs fun g w hs => ?_))
   | (with_reducible ((first | apply st_bin | apply st_conv); intro k' hk; simp [go_sem, thenR_ok, bin]; refine hk _ _ ?_; clear hk k'))
   | ((with_reducible (first | apply tk_bin)); (· intro w; simp [go_sem, bin]; rfl))
   | ((with_reducible apply sp_newr hs); (· kernel_rfl); intro g w hs))
  refine nS_can hs .all .all ?_
  repeat (first
   | (with_reducible refine case.a0 ?_)
   | ((with_reducible apply case.r0 hs); (· (with_reducible (repeat (first | exact .blk | exact .rng | apply Rng.tl)))))
   | (with_reducible refine case.c0 ?_)
   | ((with_reducible apply case.e0); (· first | exact hS | exact hid); (· (with_reducible (repeat (first | exact .blk | exact .rng | apply Rng.tl)))))
   | (with_reducible refine case.a1 ?_)
   | ((with_reducible apply case.r1 hs); (· (with_reducible (repeat (first | exact .blk | exact .rng | apply Rng.tl)))))
   | (with_reducible refine case.c1 ?_)
   | ((with_reducible apply case.e1); (· first | exact hS | exact hid); (· (with_reducible (repeat (first | exact .blk | exact .rng | apply Rng.tl)))))
   | (with_reducible refine case.a2 ?_)
   | ((with_reducible apply case.r2 hs); (· (with_reducible (repeat (first | exact .blk | exact .rng | apply Rng.tl)))); (· (with_reducible (first | assumption | exact z32 | exact u8s_len (by assumption)))))
   | (with_reducible refine case.c2 ?_)
   | ((with_reducible apply case.e2); (· first | exact hS | exact hid); (· (with_reducible (repeat (first | exact .blk | exact .rng | apply Rng.tl)))); (· (with_reducible (first | assumption | exact z32 | exact u8s_len (by assumption)))))
   | (with_reducible (first | refine st_eqls ?_ | refine tk_eqls ?_ | refine mv.mk ?_ | refine gdT_i ?_ | refine gdT_ft ?_ | refine gdT_tf ?_ | refine gdT_u ?_ | refine gd_u ?_ | refine gd_ft ?_ | refine gd_tf ?_ | refine gd_i ?_ | refine pk_t ?_ | refine pk_f ?_ | refine sp_boxa hs fun g w hs => ?_))
   | (with_reducible ((first | apply st_bin | apply st_conv); intro k' hk; simp [go_sem, thenR_ok, bin]; refine hk _ _ ?_; clear hk k'))
   | ((with_reducible (first | apply tk_bin)); (· intro w; simp [go_sem, bin]; rfl))
   | ((with_reducible apply sp_newr hs); (· kernel_rfl); intro g w hs))
  refine tk_ldn hid (by repeat (first | with_reducible exact Rng.blk | with_reducible exact Rng.rng | with_reducible apply Rng.tl)) (by kernel_rfl) rfl ?_
  refine gdT_i ?_
  refine tk_ldn hid (cs := ds) (by repeat (first | with_reducible exact Rng.blk | with_reducible exact Rng.rng | with_reducible apply Rng.tl)) (by kernel_rfl) hvx.1 ?_
  refine gdT_i ?_
  refine tk_ldn hid (cs := es) (by repeat (first | with_reducible exact Rng.blk | with_reducible exact Rng.rng | with_reducible apply Rng.tl)) (by kernel_rfl) hvy.1 ?_
  repeat (first
   | (with_reducible refine case.a0 ?_)
   | ((with_reducible apply case.r0 hs); (· (with_reducible (repeat (first | exact .blk | exact .rng | apply Rng.tl)))))
   | (with_reducible refine case.c0 ?_)
   | ((with_reducible apply case.e0); (· first | exact hS | exact hid); (· (with_reducible (repeat (first | exact .blk | exact .rng | apply Rng.tl)))))
   | (with_reducible refine case.a1 ?_)
   | ((with_reducible apply case.r1 hs); (· (with_reducible (repeat (first | exact .blk | exact .rng | apply Rng.tl)))))
   | (with_reducible refine case.c1 ?_)
   | ((with_reducible apply case.e1); (· first | exact hS | exact hid); (· (with_reducible (repeat (first | exact .blk | exact .rng | apply Rng.tl)))))
   | (with_reducible refine case.a2 ?_)
   | ((with_reducible apply case.r2 hs); (· (with_reducible (repeat (first | exact .blk | exact .rng | apply Rng.tl)))); (· (with_reducible (first | assumption | exact z32 | exact u8s_len (by assumption)))))
   | (with_reducible refine case.c2 ?_)
   | ((with_reducible apply case.e2); (· first | exact hS | exact hid); (· (with_reducible (repeat (first | exact .blk | exact .rng | apply Rng.tl)))); (· (with_reducible (first | assumption | exact z32 | exact u8s_len (by assumption)))))
   | (with_reducible (first | refine st_eqls ?_ | refine tk_eqls ?_ | refine mv.mk ?_ | refine gdT_i ?_ | refine gdT_ft ?_ | refine gdT_tf ?_ | refine gdT_u ?_ | refine gd_u ?_ | refine gd_ft ?_ | refine gd_tf ?_ | refine gd_i ?_ | refine pk_t ?_ | refine pk_f ?_ | refine sp_boxa hs fun g w hs => ?_))
   | (with_reducible ((first | apply st_bin | apply st_conv); intro k' hk; simp [go_sem, thenR_ok, bin]; refine hk _ _ ?_; clear hk k'))
   | ((with_reducible (first | apply tk_bin)); (· intro w; simp [go_sem, bin]; rfl))
   | ((with_reducible apply sp_newr hs); (· kernel_rfl); intro g w hs))
  refine tk_ldn hid (by repeat (first | with_reducible exact Rng.blk | with_reducible exact Rng.rng | with_reducible apply Rng.tl)) (by kernel_rfl) rfl ?_
  refine gdT_i ?_
  refine tk_ldn hid (cs := ds) (by repeat (first | with_reducible exact Rng.blk | with_reducible exact Rng.rng | with_reducible apply Rng.tl)) (by kernel_rfl) hvx.1 ?_
  refine gdT_i ?_
  refine tk_ldn hid (cs := es) (by repeat (first | with_reducible exact Rng.blk | with_reducible exact Rng.rng | with_reducible apply Rng.tl)) (by kernel_rfl) hvy.1 ?_
  refine gd_i ?_
  refine cl (types_TwoWays (l := c.set) (x := x) (y := y) (chain := c.chain) hs (by repeat (first | with_reducible exact Ins.hd | with_reducible apply Ins.tl)) (by repeat (first | with_reducible exact Ins.hd | with_reducible apply Ins.tl)) (by repeat (first | with_reducible exact Ins.hd | with_reducible apply Ins.tl)) (by repeat (first | with_reducible exact Ins.hd | with_reducible apply Ins.tl)) (by omega) (by omega) (by omega) (by omega)) ?_
  rintro e2 w hs
  refine ⟨hs.mayr (.drop .all), ?_⟩
  refine gd_i ?_
  refine cl (isthmuslaw11_num hs (by repeat (first | with_reducible exact Ins.hd | with_reducible apply Ins.tl)) .hd) ?_
  rintro _ w ⟨rfl, hs⟩
  replace hs := hs.drop .hd
  refine ⟨hs.mayr .all, ?_⟩
  refine gd_i ?_
  refine cl (isthmusref11_TwoWays (l := c.set) (x := x) (y := y) (chain := c.chain) hs (by repeat (first | with_reducible exact Ins.hd | with_reducible apply Ins.tl)) (by repeat (first | with_reducible exact Ins.hd | with_reducible apply Ins.tl)) (by repeat (first | with_reducible exact Ins.hd | with_reducible apply Ins.tl)) (by omega) (by omega) (by omega) (by omega)) ?_
  rintro _ w ⟨rfl, hs⟩
  refine ⟨hs.mayr .all, ?_⟩
  repeat (first
   | (with_reducible refine case.a0 ?_)
   | ((with_reducible apply case.r0 hs); (· (with_reducible (repeat (first | exact .blk | exact .rng | apply Rng.tl)))))
   | (with_reducible refine case.c0 ?_)
   | ((with_reducible apply case.e0); (· first | exact hS | exact hid); (· (with_reducible (repeat (first | exact .blk | exact .rng | apply Rng.tl)))))
   | (with_reducible refine case.a1 ?_)
   | ((with_reducible apply case.r1 hs); (· (with_reducible (repeat (first | exact .blk | exact .rng | apply Rng.tl)))))
   | (with_reducible refine case.c1 ?_)
   | ((with_reducible apply case.e1); (· first | exact hS | exact hid); (· (with_reducible (repeat (first | exact .blk | exact .rng | apply Rng.tl)))))
   | (with_reducible refine case.a2 ?_)
   | ((with_reducible apply case.r2 hs); (· (with_reducible (repeat (first | exact .blk | exact .rng | apply Rng.tl)))); (· (with_reducible (first | assumption | exact z32 | exact u8s_len (by assumption)))))
   | (with_reducible refine case.c2 ?_)
   | ((with_reducible apply case.e2); (· first | exact hS | exact hid); (· (with_reducible (repeat (first | exact .blk | exact .rng | apply Rng.tl)))); (· (with_reducible (first | assumption | exact z32 | exact u8s_len (by assumption)))))
   | (with_reducible (first | refine st_eqls ?_ | refine tk_eqls ?_ | refine mv.mk ?_ | refine gdT_i ?_ | refine gdT_ft ?_ | refine gdT_tf ?_ | refine gdT_u ?_ | refine gd_u ?_ | refine gd_ft ?_ | refine gd_tf ?_ | refine gd_i ?_ | refine pk_t ?_ | refine pk_f ?_ | refine sp_boxa hs fun g w hs => ?_))
   | (with_reducible ((first | apply st_bin | apply st_conv); intro k' hk; simp [go_sem, thenR_ok, bin]; refine hk _ _ ?_; clear hk k'))
   | ((with_reducible (first | apply tk_bin)); (· intro w; simp [go_sem, bin]; rfl))
   | ((with_reducible apply sp_newr hs); (· kernel_rfl); intro g w hs))
  refine nS_can hs .all .all ?_
  repeat (first
   | (with_reducible refine case.a0 ?_)
   | ((with_reducible apply case.r0 hs); (· (with_reducible (repeat (first | exact .blk | exact .rng | apply Rng.tl)))))
   | (with_reducible refine case.c0 ?_)
   | ((with_reducible apply case.e0); (· first | exact hS | exact hid); (· (with_reducible (repeat (first | exact .blk | exact .rng | apply Rng.tl)))))
   | (with_reducible refine case.a1 ?_)
   | ((with_reducible apply case.r1 hs); (· (with_reducible (repeat (first | exact .blk | exact .rng | apply Rng.tl)))))
   | (with_reducible refine case.c1 ?_)
   | ((with_reducible apply case.e1); (· first | exact hS | exact hid); (· (with_reducible (repeat (first | exact .blk | exact .rng | apply Rng.tl)))))
   | (with_reducible refine case.a2 ?_)
   | ((with_reducible apply case.r2 hs); (· (with_reducible (repeat (first | exact .blk | exact .rng | apply Rng.tl)))); (· (with_reducible (first | assumption | exact z32 | exact u8s_len (by assumption)))))
   | (with_reducible refine case.c2 ?_)
   | ((with_reducible apply case.e2); (· first | exact hS | exact hid); (· (with_reducible (repeat (first | exact .blk | exact .rng | apply Rng.tl)))); (· (with_reducible (first | assumption | exact z32 | exact u8s_len (by assumption)))))
   | (with_reducible (first | refine st_eqls ?_ | refine tk_eqls ?_ | refine mv.mk ?_ | refine gdT_i ?_ | refine gdT_ft ?_ | refine gdT_tf ?_ | refine gdT_u ?_ | refine gd_u ?_ | refine gd_ft ?_ | refine gd_tf ?_ | refine gd_i ?_ | refine pk_t ?_ | refine pk_f ?_ | refine sp_boxa hs fun g w hs => ?_))
   | (with_reducible ((first | apply st_bin | apply st_conv); intro k' hk; simp [go_sem, thenR_ok, bin]; refine hk _ _ ?_; clear hk k'))
   | ((with_reducible (first | apply tk_bin)); (· intro w; simp [go_sem, bin]; rfl))
   | ((with_reducible apply sp_newr hs); (· kernel_rfl); intro g w hs))
  refine tk_ldn hid (cs := ds) (by repeat (first | with_reducible exact Rng.blk | with_reducible exact Rng.rng | with_reducible apply Rng.tl)) (by kernel_rfl) hvx.1 ?_
  repeat (first
   | (with_reducible refine case.a0 ?_)
   | ((with_reducible apply case.r0 hs); (· (with_reducible (repeat (first | exact .blk | exact .rng | apply Rng.tl)))))
   | (with_reducible refine case.c0 ?_)
   | ((with_reducible apply case.e0); (· first | exact hS | exact hid); (· (with_reducible (repeat (first | exact .blk | exact .rng | apply Rng.tl)))))
   | (with_reducible refine case.a1 ?_)
   | ((with_reducible apply case.r1 hs); (· (with_reducible (repeat (first | exact .blk | exact .rng | apply Rng.tl)))))
   | (with_reducible refine case.c1 ?_)
   | ((with_reducible apply case.e1); (· first | exact hS | exact hid); (· (with_reducible (repeat (first | exact .blk | exact .rng | apply Rng.tl)))))
   | (with_reducible refine case.a2 ?_)
   | ((with_reducible apply case.r2 hs); (· (with_reducible (repeat (first | exact .blk | exact .rng | apply Rng.tl)))); (· (with_reducible (first | assumption | exact z32 | exact u8s_len (by assumption)))))
   | (with_reducible refine case.c2 ?_)
   | ((with_reducible apply case.e2); (· first | exact hS | exact hid); (· (with_reducible (repeat (first | exact .blk | exact .rng | apply Rng.tl)))); (· (with_reducible (first | assumption | exact z32 | exact u8s_len (by assumption)))))
   | (with_reducible (first | refine st_eqls ?_ | refine tk_eqls ?_ | refine mv.mk ?_ | refine gdT_i ?_ | refine gdT_ft ?_ | refine gdT_tf ?_ | refine gdT_u ?_ | refine gd_u ?_ | refine gd_ft ?_ | refine gd_tf ?_ | refine gd_i ?_ | refine pk_t ?_ | refine pk_f ?_ | refine sp_boxa hs fun g w hs => ?_))
   | (with_reducible ((first | apply st_bin | apply st_conv); intro k' hk; simp [go_sem, thenR_ok, bin]; refine hk _ _ ?_; clear hk k'))
   | ((with_reducible (first | apply tk_bin)); (· intro w; simp [go_sem, bin]; rfl))
   | ((with_reducible apply sp_newr hs); (· kernel_rfl); intro g w hs))
  refine tk_ldn hid (cs := ds) (by repeat (first | with_reducible exact Rng.blk | with_reducible exact Rng.rng | with_reducible apply Rng.tl)) (by kernel_rfl) hvx.1 ?_
  refine gd_i ?_
  have hvs : VoteS _ _ ds x := hs.get (I := (voteF ds x).it) (by repeat (first | with_reducible exact Ins.hd | with_reducible apply Ins.tl))
  refine cl (types_VoteBytes (chain := c.chain) hvs.is (by omega)) ?_
  rintro r1 w1 hN
  replace hs := newB_sep hs hN
  clear hN hvs
  refine ⟨hs.mayr (.drop .all), ?_⟩
  refine nS_can hs .all (.drop .all) ?_
  refine gdT_i ?_
  refine tk_text hid (v := r1) (by repeat (first | with_reducible exact Rds.sl | with_reducible exact Rds.byt | with_reducible exact Rds.row | with_reducible apply Rds.tl)) ?_
  refine gd_i ?_
  have hvs : VoteS _ _ ds x := hs.get (I := (voteF ds x).it) (by repeat (first | with_reducible exact Ins.hd | with_reducible apply Ins.tl))
  refine cl (isthmusref11_VoteBytes (chain := c.chain) hvs.is (by omega)) ?_
  rintro r2 w2 hN
  replace hs := newB_sep hs hN
  clear hN hvs
  refine ⟨hs.mayr (.drop .all), ?_⟩
  refine nS_can hs .all (.drop .all) ?_
  refine gdT_i ?_
  refine tk_text hid (v := r2) (by repeat (first | with_reducible exact Rds.sl | with_reducible exact Rds.byt | with_reducible exact Rds.row | with_reducible apply Rds.tl)) ?_
  repeat (first
   | (with_reducible (first | refine st_eqls ?_ | refine tk_eqls ?_ | refine mv.mk ?_ | refine gdT_i ?_ | refine gdT_ft ?_ | refine gdT_tf ?_ | refine gdT_u ?_ | refine gd_u ?_ | refine gd_ft ?_ | refine gd_tf ?_ | refine gd_i ?_ | refine pk_t ?_ | refine pk_f ?_ | refine sp_boxa hs fun g w hs => ?_))
   | (with_reducible ((first | apply st_bin | apply st_conv); intro k' hk; simp [go_sem, thenR_ok, bin]; refine hk _ _ ?_; clear hk k'))
   | ((with_reducible (first | apply tk_bin)); (· intro w; simp [go_sem, bin]; rfl))
   | ((with_reducible apply sp_newr hs); (· kernel_rfl); intro g w hs))
  simp only [decide_true]
  repeat (first
   | (with_reducible (first | refine st_eqls ?_ | refine tk_eqls ?_ | refine mv.mk ?_ | refine gdT_i ?_ | refine gdT_ft ?_ | refine gdT_tf ?_ | refine gdT_u ?_ | refine gd_u ?_ | refine gd_ft ?_ | refine gd_tf ?_ | refine gd_i ?_ | refine pk_t ?_ | refine pk_f ?_ | refine sp_boxa hs fun g w hs => ?_))
   | (with_reducible ((first | apply st_bin | apply st_conv); intro k' hk; simp [go_sem, thenR_ok, bin]; refine hk _ _ ?_; clear hk k'))
   | ((with_reducible (first | apply tk_bin)); (· intro w; simp [go_sem, bin]; rfl))
   | ((with_reducible apply sp_newr hs); (· kernel_rfl); intro g w hs))
  refine cl (isthmuslaw11_sure hs (by repeat (first | with_reducible exact Ins.hd | with_reducible apply Ins.tl))) ?_
  rintro _ w ⟨rfl, hs⟩
  refine ⟨hs.mayr .all, ?_⟩
  repeat (first
   | (with_reducible (first | refine st_eqls ?_ | refine tk_eqls ?_ | refine mv.mk ?_ | refine gdT_i ?_ | refine gdT_ft ?_ | refine gdT_tf ?_ | refine gdT_u ?_ | refine gd_u ?_ | refine gd_ft ?_ | refine gd_tf ?_ | refine gd_i ?_ | refine pk_t ?_ | refine pk_f ?_ | refine sp_boxa hs fun g w hs => ?_))
   | (with_reducible ((first | apply st_bin | apply st_conv); intro k' hk; simp [go_sem, thenR_ok, bin]; refine hk _ _ ?_; clear hk k'))
   | ((with_reducible (first | apply tk_bin)); (· intro w; simp [go_sem, bin]; rfl))
   | ((with_reducible apply sp_newr hs); (· kernel_rfl); intro g w hs))
  exact ⟨rfl, hs.sbl (by repeat (first | with_reducible exact Sbl.all | with_reducible exact Sbl.nil | refine Sbl.cons (by first | ((repeat (first | with_reducible exact Has.hd | with_reducible apply Has.tl)); done) | (repeat (first | exact Has.hd | with_reducible apply Has.tl))) ?_ | refine Sbl.drop ?_))⟩
end
end Go.Proofs.YtlfelmikcdmkhaaGreatDoor
