/- Layer 11's law TypesBlocks, walked. -/
import Derived.Test.YtlfelmikcdmkhaaGreatDoorB3
set_option linter.unusedVariables false
set_option linter.unusedSimpArgs false
set_option linter.unusedSectionVars false
namespace Go.Proofs.YtlfelmikcdmkhaaGreatDoor
open Go Go.Isk Go.RowKit
set_option maxRecDepth 20000
section
variable {b : Base} {w : World} {L R : List It} {g : Nat} {v sv : Value} {cs : List Value} {α : Type}
theorem sumG_len (g : α → Nat) : ∀ (l : List α), l.length ≤ (l.map fun v => g v + 1).sum
  | [] => by simp
  | a :: l => by
    have := sumG_len g l
    simp only [List.map_cons, List.sum_cons, List.length_cons]
    omega
theorem sumG_mem (g : α → Nat) : ∀ {l : List α} {v : α}, v ∈ l → g v + 1 ≤ (l.map fun v => g v + 1).sum
  | a :: l, v, h => by
    simp only [List.map_cons, List.sum_cons]
    rcases List.mem_cons.1 h with rfl | h
    · omega
    · have := sumG_mem g h; omega
theorem sumG_flat (g : α → Nat) (f : α → Bytes) : ∀ {l : List α}, (∀ v ∈ l, (f v).length ≤ 100 * (g v + 1)) → ((l.map f).flatten).length ≤ 100 * (l.map fun v => g v + 1).sum
  | [], _ => by simp
  | a :: l, h => by
    have h1 := sumG_flat g f (l := l) fun v hv => h v (by simp [hv])
    have h2 := h a (by simp)
    simp only [List.map_cons, List.flatten_cons, List.length_append, List.sum_cons]
    omega
structure BlokBd (x : Block) : Prop where
  chain : x.header.chain.length ≤ 1048576
  txs : (x.txs.map fun t => t.length + 1).sum ≤ 1048576
  votes : (x.last.votes.map fun v => v.sign.length + 1).sum ≤ 1048576
theorem encHeader_bd {x : Header} (h : x.ok) (hc : x.chain.length ≤ 1048576) : (encHeader x).length ≤ 1050000 := by
  have h1 := encI_len h.height
  have h2 := encI_len h.time
  have h3 := encI_len h.proposer
  have h4 := h.last
  have h5 := h.app
  have h6 := h.txs
  have h7 := h.validators
  have h8 := h.next
  have h9 := encB_len (l := x.chain) (by omega)
  simp only [encHeader, List.length_append]
  omega
theorem encCommit_bd {c : Commit} (h : c.ok) (hv : ∀ v ∈ c.votes, v.ok) (hb : (c.votes.map fun v => v.sign.length + 1).sum ≤ 1048576) : (encCommit c).length ≤ 105000000 := by
  have h1 := encI_len h.height
  have h2 := encI_len h.round
  have h3 := h.block
  have h4 := sumG_flat (fun v : Vote => v.sign.length) encVote (l := c.votes) fun v hm => by
    have h5 := sumG_mem (fun v : Vote => v.sign.length) hm
    have := encVote_len (hv v hm) (by omega)
    omega
  have h6 := sumG_len (fun v : Vote => v.sign.length) c.votes
  have h7 := encU_len10 (n := c.votes.length) (by omega)
  simp only [encCommit, encL, List.length_append]
  omega
theorem encBlock_bd {x : Block} (h : x.header.ok) (h2 : x.last.ok) (hv : ∀ v ∈ x.last.votes, v.ok) (hb : BlokBd x) : (encBlock x).length ≤ 220000000 := by
  have h1 := encHeader_bd h hb.chain
  have h3 := encCommit_bd h2 hv hb.votes
  have hb2 := hb.txs
  have h4 := sumG_flat (fun t : Bytes => t.length) encB (l := x.txs) fun v hm => by
    have h5 := sumG_mem (fun t : Bytes => t.length) hm
    have := encB_len (l := v) (by omega)
    omega
  have h6 := sumG_len (fun t : Bytes => t.length) x.txs
  have h7 := encU_len10 (n := x.txs.length) (by omega)
  simp only [encBlock, encL, List.length_append]
  omega
theorem votes_ok {l : List Vote} (hs : Isk.Sep b w L) (hm : Ins L (listF voteF 37 sv l).it) : ∀ v ∈ l, v.ok := by
  obtain ⟨xss, q1, _, _⟩ := hs.get hm
  intro x hx
  obtain ⟨i, hi, rfl⟩ := List.mem_iff_getElem.1 hx
  have h : VoteS _ _ _ _ := q1.2 i hi _ (List.getElem?_eq_getElem (by rw [q1.1]; exact hi))
  obtain ⟨_, _, h, _⟩ := h
  exact h
set_option maxHeartbeats 4000000 in
theorem isthmuslaw11_TypesBlocks {x : Block} (hs : Isk.Sep b w L) (hT : Ins L errT.it) (hR : Ins L rndF.it) (hm : Ins L (blokF cs x).it) (hb : BlokBd x) : C Tryz.prog N.isthmuslaw11_TypesBlocks #[.agg cs.toArray] w fun r w' => r = .bool true ∧ Isk.Sep b w' L := by
  have hn1 := sumG_len (fun t : Bytes => t.length) x.txs
  have hn2 := sumG_len (fun v : Vote => v.sign.length) x.last.votes
  have hb1 := hb.chain
  have hb2 := hb.txs
  have hb3 := hb.votes
  have hnm : ∀ t ∈ x.txs, t.length ≤ 1073741824 := fun t ht => by have := sumG_mem (fun t : Bytes => t.length) ht; omega
  refine C.isthmuslaw11_TypesBlocks ?_
  unfold F.isthmuslaw11_TypesBlocks
  refine blok_box hs hm fun g1 w A1 c1 A2 c2 hcs hh hc hs => ?_
  have e1 := u8s_len hh.last; have e2 := u8s_len hh.app; have e3 := u8s_len hh.txs; have e4 := u8s_len hh.validators; have e5 := u8s_len hh.next
  have hcl : (hcC x.header).length = 164 := headC_len e1 e2 e3 e4 e5
  have hcl2 : (ccC x.last A2 c2).length = 35 := commC_len (u8s_len hc.block)
  have hho : ∀ u ∈ hcC x.header, u.oneCell' = true := headC_one rfl rfl rfl (u8s_one _) (u8s_one _) (u8s_one _) (u8s_one _) (u8s_one _) rfl
  have hvo := votes_ok hs (sv := .slice A2 x.last.votes.length c2) (l := x.last.votes) (by repeat (first | with_reducible exact Ins.hd | with_reducible apply Ins.tl))
  have hbo := hs.ok blokF_ok (cs := blokC (hcC x.header) (.slice A1 x.txs.length c1) (ccC x.last A2 c2)) (x := x) (by repeat (first | with_reducible exact Ins.hd | with_reducible apply Ins.tl))
  have l1 := encHeader_bd hh hb1
  have l2 := encCommit_bd hc hvo hb3
  have l3 := encBlock_bd hh hc hvo hb
  replace hs := hs.fact (f := errT) (hs.get (by repeat (first | exact hT | apply Ins.tl)))
  replace hs := hs.fact (f := rndF) (hs.get (by repeat (first | exact hR | apply Ins.tl)))
  repeat (first
   | (with_reducible refine blok.a0 ?_)
   | ((with_reducible apply blok.r0 hs); (· (with_reducible (repeat (first | exact .blk | exact .rng | apply Rng.tl)))); (· (with_reducible (first | assumption | exact z32 | exact u8s_len (by assumption)))))
   | (with_reducible refine blok.c0 ?_)
   | ((with_reducible apply blok.e0); (· first | exact hS | exact hid); (· (with_reducible (repeat (first | exact .blk | exact .rng | apply Rng.tl)))); (· (with_reducible (first | assumption | exact z32 | exact u8s_len (by assumption)))))
   | (with_reducible refine blok.a1 ?_)
   | ((with_reducible apply blok.r1 hs); (· (with_reducible (repeat (first | exact .blk | exact .rng | apply Rng.tl)))); (· (with_reducible (first | assumption | exact z32 | exact u8s_len (by assumption)))))
   | (with_reducible refine blok.c1 ?_)
   | ((with_reducible apply blok.e1); (· first | exact hS | exact hid); (· (with_reducible (repeat (first | exact .blk | exact .rng | apply Rng.tl)))); (· (with_reducible (first | assumption | exact z32 | exact u8s_len (by assumption)))))
   | (with_reducible refine blok.a2 ?_)
   | ((with_reducible apply blok.r2 hs); (· (with_reducible (repeat (first | exact .blk | exact .rng | apply Rng.tl)))); (repeat (· (with_reducible (first | assumption | exact z32 | exact u8s_len (by assumption))))))
   | (with_reducible refine blok.c2 ?_)
   | ((with_reducible apply blok.e2); (· first | exact hS | exact hid); (· (with_reducible (repeat (first | exact .blk | exact .rng | apply Rng.tl)))); (repeat (· (with_reducible (first | assumption | exact z32 | exact u8s_len (by assumption))))))
   | (with_reducible (first | refine st_lens ?_ | refine st_eqls ?_ | refine st_nels ?_ | refine tk_eqls ?_ | refine tk_nels ?_ | refine mv.mk ?_ | refine nk_p ?_ | refine gdT_i ?_ | refine gdT_ft ?_ | refine gdT_tf ?_ | refine gdT_u ?_ | refine gd_u ?_ | refine gd_ft ?_ | refine gd_tf ?_ | refine gd_i ?_ | refine pk_t ?_ | refine pk_f ?_ | refine br_t ?_ | refine br_f ?_ | refine sp_boxa hs fun g w hs => ?_))
   | (with_reducible ((first | apply st_bin | apply st_ext | apply st_len | apply st_un | apply st_conv | apply st_mki | apply st_fld | apply st_cap | apply st_max | apply st_min | apply st_ixv | apply st_mkf); intro k' hk; simp [go_sem, thenR_ok, bin]; refine hk _ _ ?_; clear hk k'))
   | ((with_reducible (first | apply tk_bin | apply tk_ext | apply tk_len | apply tk_un)); (· intro w; simp [go_sem, bin]; rfl))
   | ((with_reducible apply sp_newr hs); (· kernel_rfl); intro g w hs))
  refine sp_setr hs .hd (by kernel_rfl) hcl hho fun w hs => ?_
  replace hs := hs.drew
  refine dr_can hs .all ?_
  refine tk_ldn hid (cs := blokC (hcC x.header) (.slice A1 x.txs.length c1) (ccC x.last A2 c2)) (by repeat (first | with_reducible exact Rng.blk | with_reducible exact Rng.rng | with_reducible apply Rng.tl)) (by kernel_rfl) hbo.1 ?_
  refine tk_ldn hid (cs := blokC (hcC x.header) (.slice A1 x.txs.length c1) (ccC x.last A2 c2)) (by repeat (first | with_reducible exact Rng.blk | with_reducible exact Rng.rng | with_reducible apply Rng.tl)) (by kernel_rfl) hbo.1 ?_
  refine cl (types_CheckBlock hs (x := x) (by repeat (first | with_reducible exact Ins.hd | with_reducible apply Ins.tl)) (by repeat (first | with_reducible exact Ins.hd | with_reducible apply Ins.tl)) (by omega) hnm (by omega)) ?_
  rintro e w hs
  refine ⟨hs.mayr (.drop .all), ?_⟩
  refine cl (isthmuslaw11_num hs (e := e) (n := checkBlock x) (by repeat (first | with_reducible exact Ins.hd | with_reducible apply Ins.tl)) .hd) ?_
  rintro _ w ⟨rfl, hs⟩
  replace hs := hs.drop .hd
  refine ⟨hs.mayr .all, ?_⟩
  refine cl (isthmusref11_CheckBlock hs (x := x) (by repeat (first | with_reducible exact Ins.hd | with_reducible apply Ins.tl)) (by omega) hnm (by omega)) ?_
  rintro _ w ⟨rfl, hs⟩
  refine ⟨hs.mayr .all, ?_⟩
  repeat (first
   | (with_reducible refine blok.a0 ?_)
   | ((with_reducible apply blok.r0 hs); (· (with_reducible (repeat (first | exact .blk | exact .rng | apply Rng.tl)))); (· (with_reducible (first | assumption | exact z32 | exact u8s_len (by assumption)))))
   | (with_reducible refine blok.c0 ?_)
   | ((with_reducible apply blok.e0); (· first | exact hS | exact hid); (· (with_reducible (repeat (first | exact .blk | exact .rng | apply Rng.tl)))); (· (with_reducible (first | assumption | exact z32 | exact u8s_len (by assumption)))))
   | (with_reducible refine blok.a1 ?_)
   | ((with_reducible apply blok.r1 hs); (· (with_reducible (repeat (first | exact .blk | exact .rng | apply Rng.tl)))); (· (with_reducible (first | assumption | exact z32 | exact u8s_len (by assumption)))))
   | (with_reducible refine blok.c1 ?_)
   | ((with_reducible apply blok.e1); (· first | exact hS | exact hid); (· (with_reducible (repeat (first | exact .blk | exact .rng | apply Rng.tl)))); (· (with_reducible (first | assumption | exact z32 | exact u8s_len (by assumption)))))
   | (with_reducible refine blok.a2 ?_)
   | ((with_reducible apply blok.r2 hs); (· (with_reducible (repeat (first | exact .blk | exact .rng | apply Rng.tl)))); (repeat (· (with_reducible (first | assumption | exact z32 | exact u8s_len (by assumption))))))
   | (with_reducible refine blok.c2 ?_)
   | ((with_reducible apply blok.e2); (· first | exact hS | exact hid); (· (with_reducible (repeat (first | exact .blk | exact .rng | apply Rng.tl)))); (repeat (· (with_reducible (first | assumption | exact z32 | exact u8s_len (by assumption))))))
   | (with_reducible (first | refine st_lens ?_ | refine st_eqls ?_ | refine st_nels ?_ | refine tk_eqls ?_ | refine tk_nels ?_ | refine mv.mk ?_ | refine nk_p ?_ | refine gdT_i ?_ | refine gdT_ft ?_ | refine gdT_tf ?_ | refine gdT_u ?_ | refine gd_u ?_ | refine gd_ft ?_ | refine gd_tf ?_ | refine gd_i ?_ | refine pk_t ?_ | refine pk_f ?_ | refine br_t ?_ | refine br_f ?_ | refine sp_boxa hs fun g w hs => ?_))
   | (with_reducible ((first | apply st_bin | apply st_ext | apply st_len | apply st_un | apply st_conv | apply st_mki | apply st_fld | apply st_cap | apply st_max | apply st_min | apply st_ixv | apply st_mkf); intro k' hk; simp [go_sem, thenR_ok, bin]; refine hk _ _ ?_; clear hk k'))
   | ((with_reducible (first | apply tk_bin | apply tk_ext | apply tk_len | apply tk_un)); (· intro w; simp [go_sem, bin]; rfl))
   | ((with_reducible apply sp_newr hs); (· kernel_rfl); intro g w hs))
  refine nS_can hs .all .all ?_
  repeat (first
   | (with_reducible refine blok.a0 ?_)
   | ((with_reducible apply blok.r0 hs); (· (with_reducible (repeat (first | exact .blk | exact .rng | apply Rng.tl)))); (· (with_reducible (first | assumption | exact z32 | exact u8s_len (by assumption)))))
   | (with_reducible refine blok.c0 ?_)
   | ((with_reducible apply blok.e0); (· first | exact hS | exact hid); (· (with_reducible (repeat (first | exact .blk | exact .rng | apply Rng.tl)))); (· (with_reducible (first | assumption | exact z32 | exact u8s_len (by assumption)))))
   | (with_reducible refine blok.a1 ?_)
   | ((with_reducible apply blok.r1 hs); (· (with_reducible (repeat (first | exact .blk | exact .rng | apply Rng.tl)))); (· (with_reducible (first | assumption | exact z32 | exact u8s_len (by assumption)))))
   | (with_reducible refine blok.c1 ?_)
   | ((with_reducible apply blok.e1); (· first | exact hS | exact hid); (· (with_reducible (repeat (first | exact .blk | exact .rng | apply Rng.tl)))); (· (with_reducible (first | assumption | exact z32 | exact u8s_len (by assumption)))))
   | (with_reducible refine blok.a2 ?_)
   | ((with_reducible apply blok.r2 hs); (· (with_reducible (repeat (first | exact .blk | exact .rng | apply Rng.tl)))); (repeat (· (with_reducible (first | assumption | exact z32 | exact u8s_len (by assumption))))))
   | (with_reducible refine blok.c2 ?_)
   | ((with_reducible apply blok.e2); (· first | exact hS | exact hid); (· (with_reducible (repeat (first | exact .blk | exact .rng | apply Rng.tl)))); (repeat (· (with_reducible (first | assumption | exact z32 | exact u8s_len (by assumption))))))
   | (with_reducible (first | refine st_lens ?_ | refine st_eqls ?_ | refine st_nels ?_ | refine tk_eqls ?_ | refine tk_nels ?_ | refine mv.mk ?_ | refine nk_p ?_ | refine gdT_i ?_ | refine gdT_ft ?_ | refine gdT_tf ?_ | refine gdT_u ?_ | refine gd_u ?_ | refine gd_ft ?_ | refine gd_tf ?_ | refine gd_i ?_ | refine pk_t ?_ | refine pk_f ?_ | refine br_t ?_ | refine br_f ?_ | refine sp_boxa hs fun g w hs => ?_))
   | (with_reducible ((first | apply st_bin | apply st_ext | apply st_len | apply st_un | apply st_conv | apply st_mki | apply st_fld | apply st_cap | apply st_max | apply st_min | apply st_ixv | apply st_mkf); intro k' hk; simp [go_sem, thenR_ok, bin]; refine hk _ _ ?_; clear hk k'))
   | ((with_reducible (first | apply tk_bin | apply tk_ext | apply tk_len | apply tk_un)); (· intro w; simp [go_sem, bin]; rfl))
   | ((with_reducible apply sp_newr hs); (· kernel_rfl); intro g w hs))
  refine cl (types_TxsHash hs (l := x.txs) (by repeat (first | with_reducible exact Ins.hd | with_reducible apply Ins.tl)) (by repeat (first | with_reducible exact Ins.hd | with_reducible apply Ins.tl)) (by omega) hnm) ?_
  rintro _ w ⟨rfl, hs⟩
  refine ⟨hs.mayr .all, ?_⟩
  repeat (first
   | (with_reducible (first | refine st_lens ?_ | refine st_eqls ?_ | refine st_nels ?_ | refine tk_eqls ?_ | refine tk_nels ?_ | refine mv.mk ?_ | refine nk_p ?_ | refine gdT_i ?_ | refine gdT_ft ?_ | refine gdT_tf ?_ | refine gdT_u ?_ | refine gd_u ?_ | refine gd_ft ?_ | refine gd_tf ?_ | refine gd_i ?_ | refine pk_t ?_ | refine pk_f ?_ | refine br_t ?_ | refine br_f ?_ | refine sp_boxa hs fun g w hs => ?_))
   | (with_reducible ((first | apply st_bin | apply st_ext | apply st_len | apply st_un | apply st_conv | apply st_mki | apply st_fld | apply st_cap | apply st_max | apply st_min | apply st_ixv | apply st_mkf); intro k' hk; simp [go_sem, thenR_ok, bin]; refine hk _ _ ?_; clear hk k'))
   | ((with_reducible (first | apply tk_bin | apply tk_ext | apply tk_len | apply tk_un)); (· intro w; simp [go_sem, bin]; rfl))
   | ((with_reducible apply sp_newr hs); (· kernel_rfl); intro g w hs))
  refine cl (isthmusref11_TxsHash hs (l := x.txs) (by repeat (first | with_reducible exact Ins.hd | with_reducible apply Ins.tl)) (by omega) hnm) ?_
  rintro _ w ⟨rfl, hs⟩
  refine ⟨hs.mayr .all, ?_⟩
  refine gdT_i ?_
  refine tk_run (hash_eq (txsHashB_len _) (txsHashB_len _) _ _) ?_
  simp only [decide_true]
  repeat (first
   | (with_reducible (first | refine st_lens ?_ | refine st_eqls ?_ | refine st_nels ?_ | refine tk_eqls ?_ | refine tk_nels ?_ | refine mv.mk ?_ | refine nk_p ?_ | refine gdT_i ?_ | refine gdT_ft ?_ | refine gdT_tf ?_ | refine gdT_u ?_ | refine gd_u ?_ | refine gd_ft ?_ | refine gd_tf ?_ | refine gd_i ?_ | refine pk_t ?_ | refine pk_f ?_ | refine br_t ?_ | refine br_f ?_ | refine sp_boxa hs fun g w hs => ?_))
   | (with_reducible ((first | apply st_bin | apply st_ext | apply st_len | apply st_un | apply st_conv | apply st_mki | apply st_fld | apply st_cap | apply st_max | apply st_min | apply st_ixv | apply st_mkf); intro k' hk; simp [go_sem, thenR_ok, bin]; refine hk _ _ ?_; clear hk k'))
   | ((with_reducible (first | apply tk_bin | apply tk_ext | apply tk_len | apply tk_un)); (· intro w; simp [go_sem, bin]; rfl))
   | ((with_reducible apply sp_newr hs); (· kernel_rfl); intro g w hs))
  refine nS_can hs .all .all ?_
  refine gdT_i ?_
  refine tk_ldn hid (cs := hcC x.header) (by repeat (first | with_reducible exact Rng.blk | with_reducible exact Rng.rng | with_reducible apply Rng.tl)) (by kernel_rfl) hcl ?_
  refine gdT_i ?_
  refine tk_ldn hid (cs := hcC x.header) (by repeat (first | with_reducible exact Rng.blk | with_reducible exact Rng.rng | with_reducible apply Rng.tl)) (by kernel_rfl) hcl ?_
  repeat (first
   | (with_reducible (first | refine st_lens ?_ | refine st_eqls ?_ | refine st_nels ?_ | refine tk_eqls ?_ | refine tk_nels ?_ | refine mv.mk ?_ | refine nk_p ?_ | refine gdT_i ?_ | refine gdT_ft ?_ | refine gdT_tf ?_ | refine gdT_u ?_ | refine gd_u ?_ | refine gd_ft ?_ | refine gd_tf ?_ | refine gd_i ?_ | refine pk_t ?_ | refine pk_f ?_ | refine br_t ?_ | refine br_f ?_ | refine sp_boxa hs fun g w hs => ?_))
   | (with_reducible ((first | apply st_bin | apply st_ext | apply st_len | apply st_un | apply st_conv | apply st_mki | apply st_fld | apply st_cap | apply st_max | apply st_min | apply st_ixv | apply st_mkf); intro k' hk; simp [go_sem, thenR_ok, bin]; refine hk _ _ ?_; clear hk k'))
   | ((with_reducible (first | apply tk_bin | apply tk_ext | apply tk_len | apply tk_un)); (· intro w; simp [go_sem, bin]; rfl))
   | ((with_reducible apply sp_newr hs); (· kernel_rfl); intro g w hs))
  refine cl (types_HeaderHash hs (h := x.header) (by repeat (first | with_reducible exact Ins.hd | with_reducible apply Ins.tl)) (by repeat (first | with_reducible exact Ins.hd | with_reducible apply Ins.tl)) (by omega)) ?_
  rintro _ w ⟨rfl, hs⟩
  refine ⟨hs.mayr .all, ?_⟩
  repeat (first
   | (with_reducible (first | refine st_lens ?_ | refine st_eqls ?_ | refine st_nels ?_ | refine tk_eqls ?_ | refine tk_nels ?_ | refine mv.mk ?_ | refine nk_p ?_ | refine gdT_i ?_ | refine gdT_ft ?_ | refine gdT_tf ?_ | refine gdT_u ?_ | refine gd_u ?_ | refine gd_ft ?_ | refine gd_tf ?_ | refine gd_i ?_ | refine pk_t ?_ | refine pk_f ?_ | refine br_t ?_ | refine br_f ?_ | refine sp_boxa hs fun g w hs => ?_))
   | (with_reducible ((first | apply st_bin | apply st_ext | apply st_len | apply st_un | apply st_conv | apply st_mki | apply st_fld | apply st_cap | apply st_max | apply st_min | apply st_ixv | apply st_mkf); intro k' hk; simp [go_sem, thenR_ok, bin]; refine hk _ _ ?_; clear hk k'))
   | ((with_reducible (first | apply tk_bin | apply tk_ext | apply tk_len | apply tk_un)); (· intro w; simp [go_sem, bin]; rfl))
   | ((with_reducible apply sp_newr hs); (· kernel_rfl); intro g w hs))
  refine cl (isthmusref11_HeaderHash hs (h := x.header) (by repeat (first | with_reducible exact Ins.hd | with_reducible apply Ins.tl)) (by omega)) ?_
  rintro _ w ⟨rfl, hs⟩
  refine ⟨hs.mayr .all, ?_⟩
  refine gdT_i ?_
  refine tk_run (hash_eq (hdrHashB_len _) (hdrHashB_len _) _ _) ?_
  simp only [decide_true]
  repeat (first
   | (with_reducible (first | refine st_lens ?_ | refine st_eqls ?_ | refine st_nels ?_ | refine tk_eqls ?_ | refine tk_nels ?_ | refine mv.mk ?_ | refine nk_p ?_ | refine gdT_i ?_ | refine gdT_ft ?_ | refine gdT_tf ?_ | refine gdT_u ?_ | refine gd_u ?_ | refine gd_ft ?_ | refine gd_tf ?_ | refine gd_i ?_ | refine pk_t ?_ | refine pk_f ?_ | refine br_t ?_ | refine br_f ?_ | refine sp_boxa hs fun g w hs => ?_))
   | (with_reducible ((first | apply st_bin | apply st_ext | apply st_len | apply st_un | apply st_conv | apply st_mki | apply st_fld | apply st_cap | apply st_max | apply st_min | apply st_ixv | apply st_mkf); intro k' hk; simp [go_sem, thenR_ok, bin]; refine hk _ _ ?_; clear hk k'))
   | ((with_reducible (first | apply tk_bin | apply tk_ext | apply tk_len | apply tk_un)); (· intro w; simp [go_sem, bin]; rfl))
   | ((with_reducible apply sp_newr hs); (· kernel_rfl); intro g w hs))
  refine nS_can hs .all .all ?_
  refine gdT_i ?_
  refine tk_ldn hid (cs := blokC (hcC x.header) (.slice A1 x.txs.length c1) (ccC x.last A2 c2)) (by repeat (first | with_reducible exact Rng.blk | with_reducible exact Rng.rng | with_reducible apply Rng.tl)) (by kernel_rfl) hbo.1 ?_
  refine gdT_i ?_
  refine tk_ldn hid (cs := blokC (hcC x.header) (.slice A1 x.txs.length c1) (ccC x.last A2 c2)) (by repeat (first | with_reducible exact Rng.blk | with_reducible exact Rng.rng | with_reducible apply Rng.tl)) (by kernel_rfl) hbo.1 ?_
  repeat (first
   | (with_reducible (first | refine st_lens ?_ | refine st_eqls ?_ | refine st_nels ?_ | refine tk_eqls ?_ | refine tk_nels ?_ | refine mv.mk ?_ | refine nk_p ?_ | refine gdT_i ?_ | refine gdT_ft ?_ | refine gdT_tf ?_ | refine gdT_u ?_ | refine gd_u ?_ | refine gd_ft ?_ | refine gd_tf ?_ | refine gd_i ?_ | refine pk_t ?_ | refine pk_f ?_ | refine br_t ?_ | refine br_f ?_ | refine sp_boxa hs fun g w hs => ?_))
   | (with_reducible ((first | apply st_bin | apply st_ext | apply st_len | apply st_un | apply st_conv | apply st_mki | apply st_fld | apply st_cap | apply st_max | apply st_min | apply st_ixv | apply st_mkf); intro k' hk; simp [go_sem, thenR_ok, bin]; refine hk _ _ ?_; clear hk k'))
   | ((with_reducible (first | apply tk_bin | apply tk_ext | apply tk_len | apply tk_un)); (· intro w; simp [go_sem, bin]; rfl))
   | ((with_reducible apply sp_newr hs); (· kernel_rfl); intro g w hs))
  have hbs : BlokS _ _ _ x := hs.get (I := (blokF (blokC (hcC x.header) (.slice A1 x.txs.length c1) (ccC x.last A2 c2)) x).it) (by repeat (first | with_reducible exact Ins.hd | with_reducible apply Ins.tl))
  refine cl (types_EncodeBlock hbs.is (by omega) (by omega) (by omega)) ?_
  rintro r1 w1 hN
  replace hs := newB_sep hs hN
  clear hbs hN
  refine ⟨hs.mayr (.drop .all), ?_⟩
  refine nS_can hs .all (.drop .all) ?_
  refine gdT_i ?_
  refine tk_text hid (v := r1) (l := encBlock x) (by repeat (first | with_reducible exact Rds.sl | with_reducible exact Rds.byt | with_reducible exact Rds.row | with_reducible apply Rds.tl)) ?_
  repeat (first
   | (with_reducible (first | refine st_lens ?_ | refine st_eqls ?_ | refine st_nels ?_ | refine tk_eqls ?_ | refine tk_nels ?_ | refine mv.mk ?_ | refine nk_p ?_ | refine gdT_i ?_ | refine gdT_ft ?_ | refine gdT_tf ?_ | refine gdT_u ?_ | refine gd_u ?_ | refine gd_ft ?_ | refine gd_tf ?_ | refine gd_i ?_ | refine pk_t ?_ | refine pk_f ?_ | refine br_t ?_ | refine br_f ?_ | refine sp_boxa hs fun g w hs => ?_))
   | (with_reducible ((first | apply st_bin | apply st_ext | apply st_len | apply st_un | apply st_conv | apply st_mki | apply st_fld | apply st_cap | apply st_max | apply st_min | apply st_ixv | apply st_mkf); intro k' hk; simp [go_sem, thenR_ok, bin]; refine hk _ _ ?_; clear hk k'))
   | ((with_reducible (first | apply tk_bin | apply tk_ext | apply tk_len | apply tk_un)); (· intro w; simp [go_sem, bin]; rfl))
   | ((with_reducible apply sp_newr hs); (· kernel_rfl); intro g w hs))
  have hbs : BlokS _ _ _ x := hs.get (I := (blokF (blokC (hcC x.header) (.slice A1 x.txs.length c1) (ccC x.last A2 c2)) x).it) (by repeat (first | with_reducible exact Ins.hd | with_reducible apply Ins.tl))
  refine cl (isthmusref11_Block (l := []) (Sl.nil 1) hbs.is (by simp only [List.length_nil]; omega) (by omega) (by omega)) ?_
  rintro r2 w2 hN
  rw [List.nil_append] at hN
  replace hs := newB_sep hs hN
  clear hbs hN
  refine ⟨hs.mayr (.drop .all), ?_⟩
  refine nS_can hs .all (.drop .all) ?_
  refine gdT_i ?_
  refine tk_text hid (v := r2) (l := encBlock x) (by repeat (first | with_reducible exact Rds.sl | with_reducible exact Rds.byt | with_reducible exact Rds.row | with_reducible apply Rds.tl)) ?_
  repeat (first
   | (with_reducible (first | refine st_lens ?_ | refine st_eqls ?_ | refine st_nels ?_ | refine tk_eqls ?_ | refine tk_nels ?_ | refine mv.mk ?_ | refine nk_p ?_ | refine gdT_i ?_ | refine gdT_ft ?_ | refine gdT_tf ?_ | refine gdT_u ?_ | refine gd_u ?_ | refine gd_ft ?_ | refine gd_tf ?_ | refine gd_i ?_ | refine pk_t ?_ | refine pk_f ?_ | refine br_t ?_ | refine br_f ?_ | refine sp_boxa hs fun g w hs => ?_))
   | (with_reducible ((first | apply st_bin | apply st_ext | apply st_len | apply st_un | apply st_conv | apply st_mki | apply st_fld | apply st_cap | apply st_max | apply st_min | apply st_ixv | apply st_mkf); intro k' hk; simp [go_sem, thenR_ok, bin]; refine hk _ _ ?_; clear hk k'))
   | ((with_reducible (first | apply tk_bin | apply tk_ext | apply tk_len | apply tk_un)); (· intro w; simp [go_sem, bin]; rfl))
   | ((with_reducible apply sp_newr hs); (· kernel_rfl); intro g w hs))
  simp only [decide_true]
  repeat (first
   | (with_reducible (first | refine st_lens ?_ | refine st_eqls ?_ | refine st_nels ?_ | refine tk_eqls ?_ | refine tk_nels ?_ | refine mv.mk ?_ | refine nk_p ?_ | refine gdT_i ?_ | refine gdT_ft ?_ | refine gdT_tf ?_ | refine gdT_u ?_ | refine gd_u ?_ | refine gd_ft ?_ | refine gd_tf ?_ | refine gd_i ?_ | refine pk_t ?_ | refine pk_f ?_ | refine br_t ?_ | refine br_f ?_ | refine sp_boxa hs fun g w hs => ?_))
   | (with_reducible ((first | apply st_bin | apply st_ext | apply st_len | apply st_un | apply st_conv | apply st_mki | apply st_fld | apply st_cap | apply st_max | apply st_min | apply st_ixv | apply st_mkf); intro k' hk; simp [go_sem, thenR_ok, bin]; refine hk _ _ ?_; clear hk k'))
   | ((with_reducible (first | apply tk_bin | apply tk_ext | apply tk_len | apply tk_un)); (· intro w; simp [go_sem, bin]; rfl))
   | ((with_reducible apply sp_newr hs); (· kernel_rfl); intro g w hs))
  refine tk_ldn hid (cs := hcC x.header) (by repeat (first | with_reducible exact Rng.blk | with_reducible exact Rng.rng | with_reducible apply Rng.tl)) (by kernel_rfl) hcl ?_
  refine gdT_i ?_
  refine tk_ldn hid (cs := hcC x.header) (by repeat (first | with_reducible exact Rng.blk | with_reducible exact Rng.rng | with_reducible apply Rng.tl)) (by kernel_rfl) hcl ?_
  repeat (first
   | (with_reducible (first | refine st_lens ?_ | refine st_eqls ?_ | refine st_nels ?_ | refine tk_eqls ?_ | refine tk_nels ?_ | refine mv.mk ?_ | refine nk_p ?_ | refine gdT_i ?_ | refine gdT_ft ?_ | refine gdT_tf ?_ | refine gdT_u ?_ | refine gd_u ?_ | refine gd_ft ?_ | refine gd_tf ?_ | refine gd_i ?_ | refine pk_t ?_ | refine pk_f ?_ | refine br_t ?_ | refine br_f ?_ | refine sp_boxa hs fun g w hs => ?_))
   | (with_reducible ((first | apply st_bin | apply st_ext | apply st_len | apply st_un | apply st_conv | apply st_mki | apply st_fld | apply st_cap | apply st_max | apply st_min | apply st_ixv | apply st_mkf); intro k' hk; simp [go_sem, thenR_ok, bin]; refine hk _ _ ?_; clear hk k'))
   | ((with_reducible (first | apply tk_bin | apply tk_ext | apply tk_len | apply tk_un)); (· intro w; simp [go_sem, bin]; rfl))
   | ((with_reducible apply sp_newr hs); (· kernel_rfl); intro g w hs))
  have hhs : HeadIs _ x.header := hs.get (I := (headF (hcC x.header) x.header).it) (by repeat (first | with_reducible exact Ins.hd | with_reducible apply Ins.tl))
  refine cl (types_EncodeHeader hhs (by omega)) ?_
  rintro r3 w3 hN
  replace hs := newB_sep hs hN
  clear hN
  refine ⟨hs.mayr (.drop .all), ?_⟩
  refine nS_can hs .all (.drop .all) ?_
  refine gdT_i ?_
  refine tk_text hid (v := r3) (l := encHeader x.header) (by repeat (first | with_reducible exact Rds.sl | with_reducible exact Rds.byt | with_reducible exact Rds.row | with_reducible apply Rds.tl)) ?_
  repeat (first
   | (with_reducible (first | refine st_lens ?_ | refine st_eqls ?_ | refine st_nels ?_ | refine tk_eqls ?_ | refine tk_nels ?_ | refine mv.mk ?_ | refine nk_p ?_ | refine gdT_i ?_ | refine gdT_ft ?_ | refine gdT_tf ?_ | refine gdT_u ?_ | refine gd_u ?_ | refine gd_ft ?_ | refine gd_tf ?_ | refine gd_i ?_ | refine pk_t ?_ | refine pk_f ?_ | refine br_t ?_ | refine br_f ?_ | refine sp_boxa hs fun g w hs => ?_))
   | (with_reducible ((first | apply st_bin | apply st_ext | apply st_len | apply st_un | apply st_conv | apply st_mki | apply st_fld | apply st_cap | apply st_max | apply st_min | apply st_ixv | apply st_mkf); intro k' hk; simp [go_sem, thenR_ok, bin]; refine hk _ _ ?_; clear hk k'))
   | ((with_reducible (first | apply tk_bin | apply tk_ext | apply tk_len | apply tk_un)); (· intro w; simp [go_sem, bin]; rfl))
   | ((with_reducible apply sp_newr hs); (· kernel_rfl); intro g w hs))
  refine cl (isthmusref11_Header (l := []) (Sl.nil 1) hhs (by simp only [List.length_nil]; omega)) ?_
  rintro r4 w4 hN
  rw [List.nil_append] at hN
  replace hs := newB_sep hs hN
  clear hN
  refine ⟨hs.mayr (.drop .all), ?_⟩
  refine nS_can hs .all (.drop .all) ?_
  refine gdT_i ?_
  refine tk_text hid (v := r4) (l := encHeader x.header) (by repeat (first | with_reducible exact Rds.sl | with_reducible exact Rds.byt | with_reducible exact Rds.row | with_reducible apply Rds.tl)) ?_
  repeat (first
   | (with_reducible (first | refine st_lens ?_ | refine st_eqls ?_ | refine st_nels ?_ | refine tk_eqls ?_ | refine tk_nels ?_ | refine mv.mk ?_ | refine nk_p ?_ | refine gdT_i ?_ | refine gdT_ft ?_ | refine gdT_tf ?_ | refine gdT_u ?_ | refine gd_u ?_ | refine gd_ft ?_ | refine gd_tf ?_ | refine gd_i ?_ | refine pk_t ?_ | refine pk_f ?_ | refine br_t ?_ | refine br_f ?_ | refine sp_boxa hs fun g w hs => ?_))
   | (with_reducible ((first | apply st_bin | apply st_ext | apply st_len | apply st_un | apply st_conv | apply st_mki | apply st_fld | apply st_cap | apply st_max | apply st_min | apply st_ixv | apply st_mkf); intro k' hk; simp [go_sem, thenR_ok, bin]; refine hk _ _ ?_; clear hk k'))
   | ((with_reducible (first | apply tk_bin | apply tk_ext | apply tk_len | apply tk_un)); (· intro w; simp [go_sem, bin]; rfl))
   | ((with_reducible apply sp_newr hs); (· kernel_rfl); intro g w hs))
  simp only [decide_true]
  repeat (first
   | (with_reducible refine blok.a0 ?_)
   | ((with_reducible apply blok.r0 hs); (· (with_reducible (repeat (first | exact .blk | exact .rng | apply Rng.tl)))); (· (with_reducible (first | assumption | exact z32 | exact u8s_len (by assumption)))))
   | (with_reducible refine blok.c0 ?_)
   | ((with_reducible apply blok.e0); (· first | exact hS | exact hid); (· (with_reducible (repeat (first | exact .blk | exact .rng | apply Rng.tl)))); (· (with_reducible (first | assumption | exact z32 | exact u8s_len (by assumption)))))
   | (with_reducible refine blok.a1 ?_)
   | ((with_reducible apply blok.r1 hs); (· (with_reducible (repeat (first | exact .blk | exact .rng | apply Rng.tl)))); (· (with_reducible (first | assumption | exact z32 | exact u8s_len (by assumption)))))
   | (with_reducible refine blok.c1 ?_)
   | ((with_reducible apply blok.e1); (· first | exact hS | exact hid); (· (with_reducible (repeat (first | exact .blk | exact .rng | apply Rng.tl)))); (· (with_reducible (first | assumption | exact z32 | exact u8s_len (by assumption)))))
   | (with_reducible refine blok.a2 ?_)
   | ((with_reducible apply blok.r2 hs); (· (with_reducible (repeat (first | exact .blk | exact .rng | apply Rng.tl)))); (repeat (· (with_reducible (first | assumption | exact z32 | exact u8s_len (by assumption))))))
   | (with_reducible refine blok.c2 ?_)
   | ((with_reducible apply blok.e2); (· first | exact hS | exact hid); (· (with_reducible (repeat (first | exact .blk | exact .rng | apply Rng.tl)))); (repeat (· (with_reducible (first | assumption | exact z32 | exact u8s_len (by assumption))))))
   | (with_reducible (first | refine st_lens ?_ | refine st_eqls ?_ | refine st_nels ?_ | refine tk_eqls ?_ | refine tk_nels ?_ | refine mv.mk ?_ | refine nk_p ?_ | refine gdT_i ?_ | refine gdT_ft ?_ | refine gdT_tf ?_ | refine gdT_u ?_ | refine gd_u ?_ | refine gd_ft ?_ | refine gd_tf ?_ | refine gd_i ?_ | refine pk_t ?_ | refine pk_f ?_ | refine br_t ?_ | refine br_f ?_ | refine sp_boxa hs fun g w hs => ?_))
   | (with_reducible ((first | apply st_bin | apply st_ext | apply st_len | apply st_un | apply st_conv | apply st_mki | apply st_fld | apply st_cap | apply st_max | apply st_min | apply st_ixv | apply st_mkf); intro k' hk; simp [go_sem, thenR_ok, bin]; refine hk _ _ ?_; clear hk k'))
   | ((with_reducible (first | apply tk_bin | apply tk_ext | apply tk_len | apply tk_un)); (· intro w; simp [go_sem, bin]; rfl))
   | ((with_reducible apply sp_newr hs); (· kernel_rfl); intro g w hs))
  have hcs2 : CommS _ _ _ x.last := hs.get (I := (commF (ccC x.last A2 c2) x.last).it) (by repeat (first | with_reducible exact Ins.hd | with_reducible apply Ins.tl))
  refine cl (types_EncodeCommit hcs2.is (by omega) (by omega)) ?_
  rintro r5 w5 hN
  replace hs := newB_sep hs hN
  clear hcs2 hN
  refine ⟨hs.mayr (.drop .all), ?_⟩
  refine nS_can hs .all (.drop .all) ?_
  refine gdT_i ?_
  refine tk_text hid (v := r5) (l := encCommit x.last) (by repeat (first | with_reducible exact Rds.sl | with_reducible exact Rds.byt | with_reducible exact Rds.row | with_reducible apply Rds.tl)) ?_
  repeat (first
   | (with_reducible (first | refine st_lens ?_ | refine st_eqls ?_ | refine st_nels ?_ | refine tk_eqls ?_ | refine tk_nels ?_ | refine mv.mk ?_ | refine nk_p ?_ | refine gdT_i ?_ | refine gdT_ft ?_ | refine gdT_tf ?_ | refine gdT_u ?_ | refine gd_u ?_ | refine gd_ft ?_ | refine gd_tf ?_ | refine gd_i ?_ | refine pk_t ?_ | refine pk_f ?_ | refine br_t ?_ | refine br_f ?_ | refine sp_boxa hs fun g w hs => ?_))
   | (with_reducible ((first | apply st_bin | apply st_ext | apply st_len | apply st_un | apply st_conv | apply st_mki | apply st_fld | apply st_cap | apply st_max | apply st_min | apply st_ixv | apply st_mkf); intro k' hk; simp [go_sem, thenR_ok, bin]; refine hk _ _ ?_; clear hk k'))
   | ((with_reducible (first | apply tk_bin | apply tk_ext | apply tk_len | apply tk_un)); (· intro w; simp [go_sem, bin]; rfl))
   | ((with_reducible apply sp_newr hs); (· kernel_rfl); intro g w hs))
  have hcs2 : CommS _ _ _ x.last := hs.get (I := (commF (ccC x.last A2 c2) x.last).it) (by repeat (first | with_reducible exact Ins.hd | with_reducible apply Ins.tl))
  refine cl (isthmusref11_Commit (l := []) (Sl.nil 1) hcs2.is (by simp only [List.length_nil]; omega) (by omega)) ?_
  rintro r6 w6 hN
  rw [List.nil_append] at hN
  replace hs := newB_sep hs hN
  clear hcs2 hN
  refine ⟨hs.mayr (.drop .all), ?_⟩
  refine nS_can hs .all (.drop .all) ?_
  refine gdT_i ?_
  refine tk_text hid (v := r6) (l := encCommit x.last) (by repeat (first | with_reducible exact Rds.sl | with_reducible exact Rds.byt | with_reducible exact Rds.row | with_reducible apply Rds.tl)) ?_
  repeat (first
   | (with_reducible (first | refine st_lens ?_ | refine st_eqls ?_ | refine st_nels ?_ | refine tk_eqls ?_ | refine tk_nels ?_ | refine mv.mk ?_ | refine nk_p ?_ | refine gdT_i ?_ | refine gdT_ft ?_ | refine gdT_tf ?_ | refine gdT_u ?_ | refine gd_u ?_ | refine gd_ft ?_ | refine gd_tf ?_ | refine gd_i ?_ | refine pk_t ?_ | refine pk_f ?_ | refine br_t ?_ | refine br_f ?_ | refine sp_boxa hs fun g w hs => ?_))
   | (with_reducible ((first | apply st_bin | apply st_ext | apply st_len | apply st_un | apply st_conv | apply st_mki | apply st_fld | apply st_cap | apply st_max | apply st_min | apply st_ixv | apply st_mkf); intro k' hk; simp [go_sem, thenR_ok, bin]; refine hk _ _ ?_; clear hk k'))
   | ((with_reducible (first | apply tk_bin | apply tk_ext | apply tk_len | apply tk_un)); (· intro w; simp [go_sem, bin]; rfl))
   | ((with_reducible apply sp_newr hs); (· kernel_rfl); intro g w hs))
  simp only [decide_true]
  repeat (first
   | (with_reducible (first | refine st_lens ?_ | refine st_eqls ?_ | refine st_nels ?_ | refine tk_eqls ?_ | refine tk_nels ?_ | refine mv.mk ?_ | refine nk_p ?_ | refine gdT_i ?_ | refine gdT_ft ?_ | refine gdT_tf ?_ | refine gdT_u ?_ | refine gd_u ?_ | refine gd_ft ?_ | refine gd_tf ?_ | refine gd_i ?_ | refine pk_t ?_ | refine pk_f ?_ | refine br_t ?_ | refine br_f ?_ | refine sp_boxa hs fun g w hs => ?_))
   | (with_reducible ((first | apply st_bin | apply st_ext | apply st_len | apply st_un | apply st_conv | apply st_mki | apply st_fld | apply st_cap | apply st_max | apply st_min | apply st_ixv | apply st_mkf); intro k' hk; simp [go_sem, thenR_ok, bin]; refine hk _ _ ?_; clear hk k'))
   | ((with_reducible (first | apply tk_bin | apply tk_ext | apply tk_len | apply tk_un)); (· intro w; simp [go_sem, bin]; rfl))
   | ((with_reducible apply sp_newr hs); (· kernel_rfl); intro g w hs))
  refine cl (isthmuslaw11_sure hs (by repeat (first | with_reducible exact Ins.hd | with_reducible apply Ins.tl))) ?_
  rintro _ w ⟨rfl, hs⟩
  refine ⟨hs.mayr .all, ?_⟩
  repeat (first
   | (with_reducible (first | refine st_lens ?_ | refine st_eqls ?_ | refine st_nels ?_ | refine tk_eqls ?_ | refine tk_nels ?_ | refine mv.mk ?_ | refine nk_p ?_ | refine gdT_i ?_ | refine gdT_ft ?_ | refine gdT_tf ?_ | refine gdT_u ?_ | refine gd_u ?_ | refine gd_ft ?_ | refine gd_tf ?_ | refine gd_i ?_ | refine pk_t ?_ | refine pk_f ?_ | refine br_t ?_ | refine br_f ?_ | refine sp_boxa hs fun g w hs => ?_))
   | (with_reducible ((first | apply st_bin | apply st_ext | apply st_len | apply st_un | apply st_conv | apply st_mki | apply st_fld | apply st_cap | apply st_max | apply st_min | apply st_ixv | apply st_mkf); intro k' hk; simp [go_sem, thenR_ok, bin]; refine hk _ _ ?_; clear hk k'))
   | ((with_reducible (first | apply tk_bin | apply tk_ext | apply tk_len | apply tk_un)); (· intro w; simp [go_sem, bin]; rfl))
   | ((with_reducible apply sp_newr hs); (· kernel_rfl); intro g w hs))
  exact ⟨rfl, hs.sbl (by repeat (first | with_reducible exact Sbl.all | with_reducible exact Sbl.nil | refine Sbl.cons (by first | ((repeat (first | with_reducible exact Has.hd | with_reducible apply Has.tl)); done) | (repeat (first | exact Has.hd | with_reducible apply Has.tl))) ?_ | refine Sbl.drop ?_))⟩
end
end Go.Proofs.YtlfelmikcdmkhaaGreatDoor
