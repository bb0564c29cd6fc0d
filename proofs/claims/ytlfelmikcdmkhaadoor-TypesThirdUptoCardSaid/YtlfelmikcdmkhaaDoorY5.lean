/- Commits: is a commit one of a set's, in the program. -/
import Derived.Test.YtlfelmikcdmkhaaDoorY4
set_option linter.unusedVariables false
set_option linter.unusedSimpArgs false
set_option linter.unusedSectionVars false
namespace Go.Proofs.YtlfelmikcdmkhaaDoor
open Go Go.Isk Go.RowKit
set_option maxRecDepth 20000
def cvBad (c : Commit) (last : Int) (v : Vote) : Prop := ¬ v.kind = 2 ∨ ¬ v.height = c.height ∨ ¬ v.round = c.round ∨ ¬ v.block = c.block ∨ v.validator ≤ last
instance {c : Commit} {last : Int} {v : Vote} : Decidable (cvBad c last v) := by unfold cvBad; infer_instance
def powerOf (l : List Validator) (i : Int) : Int := match l[i.toNat]? with | some x => x.power | none => 0
/-- the error's number or 0, and the power, behind some votes -/
def cvGo (chain : Bytes) (l : List Validator) (dg dp : Int) (c : Commit) : List Vote → Int → Int → Int × Int
  | [], _, pw => (0, pw)
  | v :: r, last, pw => if cvBad c last v then (31, pw) else if verifyVote chain l dg dp v ≠ 0 then (verifyVote chain l dg dp v, pw)
    else cvGo chain l dg dp c r v.validator (IntKind.i64.wrap (pw + powerOf l v.validator))
def verifyCommit (chain : Bytes) (l : List Validator) (dg dp : Int) (c : Commit) : Int :=
  if checkSet l ≠ 0 then checkSet l else if c.block = zero32 then 31
  else if (cvGo chain l dg dp c c.votes (-1) 0).1 ≠ 0 then (cvGo chain l dg dp c c.votes (-1) 0).1
  else if IntKind.i64.wrap (3 * (cvGo chain l dg dp c c.votes (-1) 0).2) ≤ IntKind.i64.wrap (2 * total l) then 32 else 0
section
variable {b : Base} {w : World} {L R : List It} {g6 g7 : Nat} {sv lv : Value} {cs : List Value} {chain : Bytes} {l : List Validator} {dg dp : Int} {v : Vote} {c : Commit}
theorem voteBytes_len (h : v.ok) (hc : chain.length ≤ 1048576) : (encVoteBytes chain v).length ≤ 1048800 := by
  have h1 := encI_len h.kind
  have h2 := encI_len h.height
  have h3 := encI_len h.round
  have h4 := h.block
  have h5 := encB_len (l := chain) (by omega)
  have h6 := encB_len (l := voteTag) (by decide)
  have h7 : voteTag.length = 4 := by decide
  simp only [encVoteBytes, List.length_append]
  omega
theorem types_VerifyCommit (hs : Isk.Sep b w L) (hR : Ins L rndF.it) (hl : Ins L (listF valiF 34 lv l).it) (hc : Ins L (commF cs c).it) (hn : l.length ≤ 4611686018427387904) (hnm : ∀ v ∈ l, v.name.length ≤ 4611686018427387904) (hvn : c.votes.length ≤ 4611686018427387904)
    (hsl : ∀ v ∈ c.votes, v.sign.length ≤ 2147483648) (hch : chain.length ≤ 1048576) :
    C Tryd.prog N.types_VerifyCommit #[str chain, lv, .agg #[.int .i64 dg, .int .i64 dp], .agg cs.toArray] w fun r w' => Isk.Sep b w' ((errF r (verifyCommit chain l dg dp c)).it :: L) := by
  obtain ⟨A, cp, rfl⟩ := hs.lst_len hl.lst
  obtain ⟨vv, rfl, hco, hvs⟩ : CommS _ _ _ c := hs.get hc
  obtain ⟨A2, cp2, rfl⟩ := (hs.fact (f := listF voteF 37 vv c.votes) hvs).lst_len .lst
  have hblock := hco.block
  have z : zero32.length = 32 := by decide
  refine C.types_VerifyCommit ?_
  unfold F.types_VerifyCommit
  replace hs := hs.fact (f := listF voteF 37 _ c.votes) hvs
  refine sp_box (cs := [.int .i64 dg, .int .i64 dp]) hs rfl fun g6 w hs => ?_
  refine sp_boxa hs fun g7 w hs => ?_
  repeat with_reducible refine mv.mk ?_
  refine cl (types_CheckSet hs (.tl (.tl (.tl hl))) hn hnm) ?_
  rintro e w hs
  repeat with_reducible refine mv.mk ?_
  refine st_of (err_neq hs .hd) ?_
  by_cases h1 : checkSet l = 0
  rotate_left
  · rw [decide_eq_false h1]
    refine br_t ?_
    repeat with_reducible refine mv.mk ?_
    rw [verifyCommit, if_pos h1]
    exact hs.sbl (.cons .hd (.drop (.drop (.drop .all))))
  rw [decide_eq_true h1]
  refine br_f ?_
  repeat (first
   | (with_reducible refine comm.a0 ?_)
   | ((with_reducible apply comm.r0 hs); (· (with_reducible (repeat (first | exact .blk | exact .rng | apply Rng.tl)))))
   | (with_reducible refine comm.c0 ?_)
   | ((with_reducible apply comm.e0); (· first | exact hS | exact hid); (· (with_reducible (repeat (first | exact .blk | exact .rng | apply Rng.tl)))))
   | (with_reducible refine comm.a1 ?_)
   | ((with_reducible apply comm.r1 hs); (· (with_reducible (repeat (first | exact .blk | exact .rng | apply Rng.tl)))))
   | (with_reducible refine comm.c1 ?_)
   | ((with_reducible apply comm.e1); (· first | exact hS | exact hid); (· (with_reducible (repeat (first | exact .blk | exact .rng | apply Rng.tl)))))
   | (with_reducible refine comm.a2 ?_)
   | ((with_reducible apply comm.r2 hs); (· (with_reducible (repeat (first | exact .blk | exact .rng | apply Rng.tl)))); (· (with_reducible (first | assumption | exact z32 | exact u8s_len (by assumption)))))
   | (with_reducible refine comm.c2 ?_)
   | ((with_reducible apply comm.e2); (· first | exact hS | exact hid); (· (with_reducible (repeat (first | exact .blk | exact .rng | apply Rng.tl)))); (· (with_reducible (first | assumption | exact z32 | exact u8s_len (by assumption)))))
   | (with_reducible refine comm.a3 ?_)
   | ((with_reducible apply comm.r3 hs); (· (with_reducible (repeat (first | exact .blk | exact .rng | apply Rng.tl)))); (· (with_reducible (first | assumption | exact z32 | exact u8s_len (by assumption)))))
   | (with_reducible refine comm.c3 ?_)
   | ((with_reducible apply comm.e3); (· first | exact hS | exact hid); (· (with_reducible (repeat (first | exact .blk | exact .rng | apply Rng.tl)))); (· (with_reducible (first | assumption | exact z32 | exact u8s_len (by assumption)))))
   | (with_reducible (first | refine st_lens ?_ | refine st_eqls ?_ | refine st_nels ?_ | refine tk_eqls ?_ | refine tk_nels ?_ | refine mv.mk ?_ | refine nk_p ?_ | refine gdT_i ?_ | refine gdT_ft ?_ | refine gdT_tf ?_ | refine gdT_u ?_ | refine gd_u ?_ | refine gd_ft ?_ | refine gd_tf ?_ | refine gd_i ?_ | refine pk_t ?_ | refine pk_f ?_ | refine br_t ?_ | refine br_f ?_ | refine sp_boxa hs fun g w hs => ?_))
   | (with_reducible ((first | apply st_bin | apply st_ext | apply st_len | apply st_un | apply st_conv | apply st_mki | apply st_fld | apply st_cap | apply st_max | apply st_min | apply st_ixv | apply st_mkf); intro k' hk; simp [go_sem, thenR_ok, bin]; refine hk _ _ ?_; clear hk k'))
   | ((with_reducible (first | apply tk_bin | apply tk_ext | apply tk_len | apply tk_un)); (· intro w; simp [go_sem, bin]; rfl))
   | ((with_reducible apply sp_newr hs); (· kernel_rfl); intro g w hs))
  refine st_build (cells := (u8s zero32).toArray) (by kernel_rfl) ?_
  refine st_of (hash_eq hblock z _ _ _) ?_
  by_cases h2 : c.block = zero32
  · rw [decide_eq_true h2]
    refine br_t ?_
    refine cl (types_fault (by decide) (by decide) (by decide) hs) ?_
    rintro r w hs
    repeat with_reducible refine mv.mk ?_
    rw [verifyCommit, if_neg (by simpa using h1), if_pos h2]
    exact hs.sbl (.cons .hd (.drop (.drop (.drop (.drop .all)))))
  rw [decide_eq_false h2]
  refine br_f ?_
  have hV : verifyCommit chain l dg dp c = if (cvGo chain l dg dp c c.votes (-1) 0).1 ≠ 0 then (cvGo chain l dg dp c c.votes (-1) 0).1 else if IntKind.i64.wrap (3 * (cvGo chain l dg dp c c.votes (-1) 0).2) ≤ IntKind.i64.wrap (2 * total l) then 32 else 0 := by
    rw [verifyCommit, if_neg (by simpa using h1), if_neg h2]
  repeat (first
   | (with_reducible refine comm.a0 ?_)
   | ((with_reducible apply comm.r0 hs); (· (with_reducible (repeat (first | exact .blk | exact .rng | apply Rng.tl)))))
   | (with_reducible refine comm.c0 ?_)
   | ((with_reducible apply comm.e0); (· first | exact hS | exact hid); (· (with_reducible (repeat (first | exact .blk | exact .rng | apply Rng.tl)))))
   | (with_reducible refine comm.a1 ?_)
   | ((with_reducible apply comm.r1 hs); (· (with_reducible (repeat (first | exact .blk | exact .rng | apply Rng.tl)))))
   | (with_reducible refine comm.c1 ?_)
   | ((with_reducible apply comm.e1); (· first | exact hS | exact hid); (· (with_reducible (repeat (first | exact .blk | exact .rng | apply Rng.tl)))))
   | (with_reducible refine comm.a2 ?_)
   | ((with_reducible apply comm.r2 hs); (· (with_reducible (repeat (first | exact .blk | exact .rng | apply Rng.tl)))); (· (with_reducible (first | assumption | exact z32 | exact u8s_len (by assumption)))))
   | (with_reducible refine comm.c2 ?_)
   | ((with_reducible apply comm.e2); (· first | exact hS | exact hid); (· (with_reducible (repeat (first | exact .blk | exact .rng | apply Rng.tl)))); (· (with_reducible (first | assumption | exact z32 | exact u8s_len (by assumption)))))
   | (with_reducible refine comm.a3 ?_)
   | ((with_reducible apply comm.r3 hs); (· (with_reducible (repeat (first | exact .blk | exact .rng | apply Rng.tl)))); (· (with_reducible (first | assumption | exact z32 | exact u8s_len (by assumption)))))
   | (with_reducible refine comm.c3 ?_)
   | ((with_reducible apply comm.e3); (· first | exact hS | exact hid); (· (with_reducible (repeat (first | exact .blk | exact .rng | apply Rng.tl)))); (· (with_reducible (first | assumption | exact z32 | exact u8s_len (by assumption)))))
   | (with_reducible (first | refine st_lens ?_ | refine st_eqls ?_ | refine st_nels ?_ | refine tk_eqls ?_ | refine tk_nels ?_ | refine mv.mk ?_ | refine nk_p ?_ | refine gdT_i ?_ | refine gdT_ft ?_ | refine gdT_tf ?_ | refine gdT_u ?_ | refine gd_u ?_ | refine gd_ft ?_ | refine gd_tf ?_ | refine gd_i ?_ | refine pk_t ?_ | refine pk_f ?_ | refine br_t ?_ | refine br_f ?_ | refine sp_boxa hs fun g w hs => ?_))
   | (with_reducible ((first | apply st_bin | apply st_ext | apply st_len | apply st_un | apply st_conv | apply st_mki | apply st_fld | apply st_cap | apply st_max | apply st_min | apply st_ixv | apply st_mkf); intro k' hk; simp [go_sem, thenR_ok, bin]; refine hk _ _ ?_; clear hk k'))
   | ((with_reducible (first | apply tk_bin | apply tk_ext | apply tk_len | apply tk_un)); (· intro w; simp [go_sem, bin]; rfl))
   | ((with_reducible apply sp_newr hs); (· kernel_rfl); intro g w hs))
  generalize hLL : (errF e (checkSet l)).it :: _ = LL at hs
  refine lp_by (fun us w' => ∃ (i : Nat) (last pw : Int) (x y : Value), us = [x, .int .i64 last, .int .i64 pw, y, .int .i64 (i : Int)] ∧ i ≤ c.votes.length ∧ cvGo chain l dg dp c c.votes (-1) 0 = cvGo chain l dg dp c (c.votes.drop i) last pw ∧ Isk.Sep b w' LL) (fun us _ => match us with | [_, _, _, _, .int _ m] => c.votes.length - m.toNat | _ => 0) ⟨0, _, _, _, _, rfl, Nat.zero_le _, rfl, hs⟩ ?_
  clear hs
  rintro x w ⟨i, last, pw, y1, y2, hx, hi, hgo, hs⟩
  simp only [List.cons.injEq, and_true] at hx
  simp only [hx.1, hx.2.1, hx.2.2.1, hx.2.2.2.1, hx.2.2.2.2]
  subst hLL
  repeat (first
   | (with_reducible (first | refine st_lens ?_ | refine st_eqls ?_ | refine st_nels ?_ | refine tk_eqls ?_ | refine tk_nels ?_ | refine mv.mk ?_ | refine nk_p ?_ | refine gdT_i ?_ | refine gdT_ft ?_ | refine gdT_tf ?_ | refine gdT_u ?_ | refine gd_u ?_ | refine gd_ft ?_ | refine gd_tf ?_ | refine gd_i ?_ | refine pk_t ?_ | refine pk_f ?_ | refine br_t ?_ | refine br_f ?_ | refine sp_boxa hs fun g w hs => ?_))
   | (with_reducible ((first | apply st_bin | apply st_ext | apply st_len | apply st_un | apply st_conv | apply st_mki | apply st_fld | apply st_cap | apply st_max | apply st_min | apply st_ixv | apply st_mkf); intro k' hk; simp [go_sem, thenR_ok, bin]; refine hk _ _ ?_; clear hk k'))
   | ((with_reducible (first | apply tk_bin | apply tk_ext | apply tk_len | apply tk_un)); (· intro w; simp [go_sem, bin]; rfl))
   | ((with_reducible apply sp_newr hs); (· kernel_rfl); intro g w hs))
  refine br_split (fun hq => ?_) (fun hq => ?_)
  · have hi' : i < c.votes.length := by have := of_decide_eq_true hq; omega
    refine sp_eln hs (F := voteF) (ls := c.votes) (by repeat (first | with_reducible exact Lst.lst | with_reducible exact Lst.gr | with_reducible apply Lst.tl)) tVotes (by kernel_rfl) i rfl hi' fun y hyl hs => ?_
    have hdr : c.votes.drop i = c.votes[i] :: c.votes.drop (i + 1) := List.drop_eq_getElem_cons hi'
    have hvs2 := hsl _ (List.getElem_mem hi')
    rw [hdr] at hgo
    generalize hv : c.votes[i] = v at hs hgo hvs2
    have hvo := hs.ok voteF_ok (cs := y) .hd
    obtain ⟨sg, hy, vok, hsg⟩ : VoteS _ _ y v := hs.get (I := (voteF y v).it) .hd
    subst hy
    have hvb := vok.block
    refine sp_newr hs (by kernel_rfl) fun g13 w hs => ?_
    refine sp_setr hs (by first | ((repeat (first | with_reducible exact Has.hd | with_reducible apply Has.tl)); done) | (repeat (first | exact Has.hd | with_reducible apply Has.tl))) (by kernel_rfl) hvo.1 hvo.2 fun w hs => ?_
    have hbad : ∀ {K : Value → World → Prop}, cvBad c last v → (∀ r w', Isk.Sep b w' ((errF r (verifyCommit chain l dg dp c)).it :: L) → K r w') →
        C Tryd.prog N.types_fault #[.string ⟨#[99, 111, 109, 109, 105, 116, 39, 115, 32, 118, 111, 116, 101]⟩, .int .i64 31] w K := by
      intro K hb hK
      rw [hV, hgo] at hK
      simp only [cvGo, if_pos hb] at hK
      refine cl (types_fault (by decide) (by decide) (by decide) hs) ?_
      rintro r w hs
      exact hK r w (hs.sbl (.cons .hd (.drop (.drop (.drop (.drop (.drop (.drop .all))))))))
    repeat (first
     | (with_reducible refine vote.a0 ?_)
     | ((with_reducible apply vote.r0 hs); (· (with_reducible (repeat (first | exact .blk | exact .rng | apply Rng.tl)))))
     | (with_reducible refine vote.c0 ?_)
     | ((with_reducible apply vote.e0); (· first | exact hS | exact hid); (· (with_reducible (repeat (first | exact .blk | exact .rng | apply Rng.tl)))))
     | (with_reducible refine vote.a1 ?_)
     | ((with_reducible apply vote.r1 hs); (· (with_reducible (repeat (first | exact .blk | exact .rng | apply Rng.tl)))))
     | (with_reducible refine vote.c1 ?_)
     | ((with_reducible apply vote.e1); (· first | exact hS | exact hid); (· (with_reducible (repeat (first | exact .blk | exact .rng | apply Rng.tl)))))
     | (with_reducible refine vote.a2 ?_)
     | ((with_reducible apply vote.r2 hs); (· (with_reducible (repeat (first | exact .blk | exact .rng | apply Rng.tl)))))
     | (with_reducible refine vote.c2 ?_)
     | ((with_reducible apply vote.e2); (· first | exact hS | exact hid); (· (with_reducible (repeat (first | exact .blk | exact .rng | apply Rng.tl)))))
     | (with_reducible refine vote.a3 ?_)
     | ((with_reducible apply vote.r3 hs); (· (with_reducible (repeat (first | exact .blk | exact .rng | apply Rng.tl)))); (· (with_reducible (first | assumption | exact z32 | exact u8s_len (by assumption)))))
     | (with_reducible refine vote.c3 ?_)
     | ((with_reducible apply vote.e3); (· first | exact hS | exact hid); (· (with_reducible (repeat (first | exact .blk | exact .rng | apply Rng.tl)))); (· (with_reducible (first | assumption | exact z32 | exact u8s_len (by assumption)))))
     | (with_reducible refine vote.a4 ?_)
     | ((with_reducible apply vote.r4 hs); (· (with_reducible (repeat (first | exact .blk | exact .rng | apply Rng.tl)))); (· (with_reducible (first | assumption | exact z32 | exact u8s_len (by assumption)))))
     | (with_reducible refine vote.c4 ?_)
     | ((with_reducible apply vote.e4); (· first | exact hS | exact hid); (· (with_reducible (repeat (first | exact .blk | exact .rng | apply Rng.tl)))); (· (with_reducible (first | assumption | exact z32 | exact u8s_len (by assumption)))))
     | (with_reducible refine vote.a5 ?_)
     | ((with_reducible apply vote.r5 hs); (· (with_reducible (repeat (first | exact .blk | exact .rng | apply Rng.tl)))); (· (with_reducible (first | assumption | exact z32 | exact u8s_len (by assumption)))))
     | (with_reducible refine vote.c5 ?_)
     | ((with_reducible apply vote.e5); (· first | exact hS | exact hid); (· (with_reducible (repeat (first | exact .blk | exact .rng | apply Rng.tl)))); (· (with_reducible (first | assumption | exact z32 | exact u8s_len (by assumption)))))
     | (with_reducible refine comm.a0 ?_)
     | ((with_reducible apply comm.r0 hs); (· (with_reducible (repeat (first | exact .blk | exact .rng | apply Rng.tl)))))
     | (with_reducible refine comm.c0 ?_)
     | ((with_reducible apply comm.e0); (· first | exact hS | exact hid); (· (with_reducible (repeat (first | exact .blk | exact .rng | apply Rng.tl)))))
     | (with_reducible refine comm.a1 ?_)
     | ((with_reducible apply comm.r1 hs); (· (with_reducible (repeat (first | exact .blk | exact .rng | apply Rng.tl)))))
     | (with_reducible refine comm.c1 ?_)
     | ((with_reducible apply comm.e1); (· first | exact hS | exact hid); (· (with_reducible (repeat (first | exact .blk | exact .rng | apply Rng.tl)))))
     | (with_reducible refine comm.a2 ?_)
     | ((with_reducible apply comm.r2 hs); (· (with_reducible (repeat (first | exact .blk | exact .rng | apply Rng.tl)))); (· (with_reducible (first | assumption | exact z32 | exact u8s_len (by assumption)))))
     | (with_reducible refine comm.c2 ?_)
     | ((with_reducible apply comm.e2); (· first | exact hS | exact hid); (· (with_reducible (repeat (first | exact .blk | exact .rng | apply Rng.tl)))); (· (with_reducible (first | assumption | exact z32 | exact u8s_len (by assumption)))))
     | (with_reducible refine comm.a3 ?_)
     | ((with_reducible apply comm.r3 hs); (· (with_reducible (repeat (first | exact .blk | exact .rng | apply Rng.tl)))); (· (with_reducible (first | assumption | exact z32 | exact u8s_len (by assumption)))))
     | (with_reducible refine comm.c3 ?_)
     | ((with_reducible apply comm.e3); (· first | exact hS | exact hid); (· (with_reducible (repeat (first | exact .blk | exact .rng | apply Rng.tl)))); (· (with_reducible (first | assumption | exact z32 | exact u8s_len (by assumption)))))
     | (with_reducible (first | refine st_lens ?_ | refine st_eqls ?_ | refine st_nels ?_ | refine tk_eqls ?_ | refine tk_nels ?_ | refine mv.mk ?_ | refine nk_p ?_ | refine gdT_i ?_ | refine gdT_ft ?_ | refine gdT_tf ?_ | refine gdT_u ?_ | refine gd_u ?_ | refine gd_ft ?_ | refine gd_tf ?_ | refine gd_i ?_ | refine pk_t ?_ | refine pk_f ?_ | refine br_t ?_ | refine br_f ?_ | refine sp_boxa hs fun g w hs => ?_))
     | (with_reducible ((first | apply st_bin | apply st_ext | apply st_len | apply st_un | apply st_conv | apply st_mki | apply st_fld | apply st_cap | apply st_max | apply st_min | apply st_ixv | apply st_mkf); intro k' hk; simp [go_sem, thenR_ok, bin]; refine hk _ _ ?_; clear hk k'))
     | ((with_reducible (first | apply tk_bin | apply tk_ext | apply tk_len | apply tk_un)); (· intro w; simp [go_sem, bin]; rfl))
     | ((with_reducible apply sp_newr hs); (· kernel_rfl); intro g w hs))
    by_cases c1 : v.kind = 2
    rotate_left
    · rw [show (v.kind != 2) = true by simpa using c1]
      repeat (first
       | (with_reducible (first | refine st_lens ?_ | refine st_eqls ?_ | refine st_nels ?_ | refine tk_eqls ?_ | refine tk_nels ?_ | refine mv.mk ?_ | refine nk_p ?_ | refine gdT_i ?_ | refine gdT_ft ?_ | refine gdT_tf ?_ | refine gdT_u ?_ | refine gd_u ?_ | refine gd_ft ?_ | refine gd_tf ?_ | refine gd_i ?_ | refine pk_t ?_ | refine pk_f ?_ | refine br_t ?_ | refine br_f ?_ | refine sp_boxa hs fun g w hs => ?_))
       | (with_reducible ((first | apply st_bin | apply st_ext | apply st_len | apply st_un | apply st_conv | apply st_mki | apply st_fld | apply st_cap | apply st_max | apply st_min | apply st_ixv | apply st_mkf); intro k' hk; simp [go_sem, thenR_ok, bin]; refine hk _ _ ?_; clear hk k'))
       | ((with_reducible (first | apply tk_bin | apply tk_ext | apply tk_len | apply tk_un)); (· intro w; simp [go_sem, bin]; rfl))
       | ((with_reducible apply sp_newr hs); (· kernel_rfl); intro g w hs))
      exact hbad (.inl c1) fun r w hs => mv.mk hs
    rw [show (v.kind != 2) = false by simpa using c1]
    repeat (first
     | (with_reducible refine vote.a0 ?_)
     | ((with_reducible apply vote.r0 hs); (· (with_reducible (repeat (first | exact .blk | exact .rng | apply Rng.tl)))))
     | (with_reducible refine vote.c0 ?_)
     | ((with_reducible apply vote.e0); (· first | exact hS | exact hid); (· (with_reducible (repeat (first | exact .blk | exact .rng | apply Rng.tl)))))
     | (with_reducible refine vote.a1 ?_)
     | ((with_reducible apply vote.r1 hs); (· (with_reducible (repeat (first | exact .blk | exact .rng | apply Rng.tl)))))
     | (with_reducible refine vote.c1 ?_)
     | ((with_reducible apply vote.e1); (· first | exact hS | exact hid); (· (with_reducible (repeat (first | exact .blk | exact .rng | apply Rng.tl)))))
     | (with_reducible refine vote.a2 ?_)
     | ((with_reducible apply vote.r2 hs); (· (with_reducible (repeat (first | exact .blk | exact .rng | apply Rng.tl)))))
     | (with_reducible refine vote.c2 ?_)
     | ((with_reducible apply vote.e2); (· first | exact hS | exact hid); (· (with_reducible (repeat (first | exact .blk | exact .rng | apply Rng.tl)))))
     | (with_reducible refine vote.a3 ?_)
     | ((with_reducible apply vote.r3 hs); (· (with_reducible (repeat (first | exact .blk | exact .rng | apply Rng.tl)))); (· (with_reducible (first | assumption | exact z32 | exact u8s_len (by assumption)))))
     | (with_reducible refine vote.c3 ?_)
     | ((with_reducible apply vote.e3); (· first | exact hS | exact hid); (· (with_reducible (repeat (first | exact .blk | exact .rng | apply Rng.tl)))); (· (with_reducible (first | assumption | exact z32 | exact u8s_len (by assumption)))))
     | (with_reducible refine vote.a4 ?_)
     | ((with_reducible apply vote.r4 hs); (· (with_reducible (repeat (first | exact .blk | exact .rng | apply Rng.tl)))); (· (with_reducible (first | assumption | exact z32 | exact u8s_len (by assumption)))))
     | (with_reducible refine vote.c4 ?_)
     | ((with_reducible apply vote.e4); (· first | exact hS | exact hid); (· (with_reducible (repeat (first | exact .blk | exact .rng | apply Rng.tl)))); (· (with_reducible (first | assumption | exact z32 | exact u8s_len (by assumption)))))
     | (with_reducible refine vote.a5 ?_)
     | ((with_reducible apply vote.r5 hs); (· (with_reducible (repeat (first | exact .blk | exact .rng | apply Rng.tl)))); (· (with_reducible (first | assumption | exact z32 | exact u8s_len (by assumption)))))
     | (with_reducible refine vote.c5 ?_)
     | ((with_reducible apply vote.e5); (· first | exact hS | exact hid); (· (with_reducible (repeat (first | exact .blk | exact .rng | apply Rng.tl)))); (· (with_reducible (first | assumption | exact z32 | exact u8s_len (by assumption)))))
     | (with_reducible refine comm.a0 ?_)
     | ((with_reducible apply comm.r0 hs); (· (with_reducible (repeat (first | exact .blk | exact .rng | apply Rng.tl)))))
     | (with_reducible refine comm.c0 ?_)
     | ((with_reducible apply comm.e0); (· first | exact hS | exact hid); (· (with_reducible (repeat (first | exact .blk | exact .rng | apply Rng.tl)))))
     | (with_reducible refine comm.a1 ?_)
     | ((with_reducible apply comm.r1 hs); (· (with_reducible (repeat (first | exact .blk | exact .rng | apply Rng.tl)))))
     | (with_reducible refine comm.c1 ?_)
     | ((with_reducible apply comm.e1); (· first | exact hS | exact hid); (· (with_reducible (repeat (first | exact .blk | exact .rng | apply Rng.tl)))))
     | (with_reducible refine comm.a2 ?_)
     | ((with_reducible apply comm.r2 hs); (· (with_reducible (repeat (first | exact .blk | exact .rng | apply Rng.tl)))); (· (with_reducible (first | assumption | exact z32 | exact u8s_len (by assumption)))))
     | (with_reducible refine comm.c2 ?_)
     | ((with_reducible apply comm.e2); (· first | exact hS | exact hid); (· (with_reducible (repeat (first | exact .blk | exact .rng | apply Rng.tl)))); (· (with_reducible (first | assumption | exact z32 | exact u8s_len (by assumption)))))
     | (with_reducible refine comm.a3 ?_)
     | ((with_reducible apply comm.r3 hs); (· (with_reducible (repeat (first | exact .blk | exact .rng | apply Rng.tl)))); (· (with_reducible (first | assumption | exact z32 | exact u8s_len (by assumption)))))
     | (with_reducible refine comm.c3 ?_)
     | ((with_reducible apply comm.e3); (· first | exact hS | exact hid); (· (with_reducible (repeat (first | exact .blk | exact .rng | apply Rng.tl)))); (· (with_reducible (first | assumption | exact z32 | exact u8s_len (by assumption)))))
     | (with_reducible (first | refine st_lens ?_ | refine st_eqls ?_ | refine st_nels ?_ | refine tk_eqls ?_ | refine tk_nels ?_ | refine mv.mk ?_ | refine nk_p ?_ | refine gdT_i ?_ | refine gdT_ft ?_ | refine gdT_tf ?_ | refine gdT_u ?_ | refine gd_u ?_ | refine gd_ft ?_ | refine gd_tf ?_ | refine gd_i ?_ | refine pk_t ?_ | refine pk_f ?_ | refine br_t ?_ | refine br_f ?_ | refine sp_boxa hs fun g w hs => ?_))
     | (with_reducible ((first | apply st_bin | apply st_ext | apply st_len | apply st_un | apply st_conv | apply st_mki | apply st_fld | apply st_cap | apply st_max | apply st_min | apply st_ixv | apply st_mkf); intro k' hk; simp [go_sem, thenR_ok, bin]; refine hk _ _ ?_; clear hk k'))
     | ((with_reducible (first | apply tk_bin | apply tk_ext | apply tk_len | apply tk_un)); (· intro w; simp [go_sem, bin]; rfl))
     | ((with_reducible apply sp_newr hs); (· kernel_rfl); intro g w hs))
    by_cases c2 : v.height = c.height
    rotate_left
    · rw [show (v.height != c.height) = true by simpa using c2]
      repeat (first
       | (with_reducible (first | refine st_lens ?_ | refine st_eqls ?_ | refine st_nels ?_ | refine tk_eqls ?_ | refine tk_nels ?_ | refine mv.mk ?_ | refine nk_p ?_ | refine gdT_i ?_ | refine gdT_ft ?_ | refine gdT_tf ?_ | refine gdT_u ?_ | refine gd_u ?_ | refine gd_ft ?_ | refine gd_tf ?_ | refine gd_i ?_ | refine pk_t ?_ | refine pk_f ?_ | refine br_t ?_ | refine br_f ?_ | refine sp_boxa hs fun g w hs => ?_))
       | (with_reducible ((first | apply st_bin | apply st_ext | apply st_len | apply st_un | apply st_conv | apply st_mki | apply st_fld | apply st_cap | apply st_max | apply st_min | apply st_ixv | apply st_mkf); intro k' hk; simp [go_sem, thenR_ok, bin]; refine hk _ _ ?_; clear hk k'))
       | ((with_reducible (first | apply tk_bin | apply tk_ext | apply tk_len | apply tk_un)); (· intro w; simp [go_sem, bin]; rfl))
       | ((with_reducible apply sp_newr hs); (· kernel_rfl); intro g w hs))
      exact hbad (.inr (.inl c2)) fun r w hs => mv.mk hs
    rw [show (v.height != c.height) = false by simpa using c2]
    repeat (first
     | (with_reducible refine vote.a0 ?_)
     | ((with_reducible apply vote.r0 hs); (· (with_reducible (repeat (first | exact .blk | exact .rng | apply Rng.tl)))))
     | (with_reducible refine vote.c0 ?_)
     | ((with_reducible apply vote.e0); (· first | exact hS | exact hid); (· (with_reducible (repeat (first | exact .blk | exact .rng | apply Rng.tl)))))
     | (with_reducible refine vote.a1 ?_)
     | ((with_reducible apply vote.r1 hs); (· (with_reducible (repeat (first | exact .blk | exact .rng | apply Rng.tl)))))
     | (with_reducible refine vote.c1 ?_)
     | ((with_reducible apply vote.e1); (· first | exact hS | exact hid); (· (with_reducible (repeat (first | exact .blk | exact .rng | apply Rng.tl)))))
     | (with_reducible refine vote.a2 ?_)
     | ((with_reducible apply vote.r2 hs); (· (with_reducible (repeat (first | exact .blk | exact .rng | apply Rng.tl)))))
     | (with_reducible refine vote.c2 ?_)
     | ((with_reducible apply vote.e2); (· first | exact hS | exact hid); (· (with_reducible (repeat (first | exact .blk | exact .rng | apply Rng.tl)))))
     | (with_reducible refine vote.a3 ?_)
     | ((with_reducible apply vote.r3 hs); (· (with_reducible (repeat (first | exact .blk | exact .rng | apply Rng.tl)))); (· (with_reducible (first | assumption | exact z32 | exact u8s_len (by assumption)))))
     | (with_reducible refine vote.c3 ?_)
     | ((with_reducible apply vote.e3); (· first | exact hS | exact hid); (· (with_reducible (repeat (first | exact .blk | exact .rng | apply Rng.tl)))); (· (with_reducible (first | assumption | exact z32 | exact u8s_len (by assumption)))))
     | (with_reducible refine vote.a4 ?_)
     | ((with_reducible apply vote.r4 hs); (· (with_reducible (repeat (first | exact .blk | exact .rng | apply Rng.tl)))); (· (with_reducible (first | assumption | exact z32 | exact u8s_len (by assumption)))))
     | (with_reducible refine vote.c4 ?_)
     | ((with_reducible apply vote.e4); (· first | exact hS | exact hid); (· (with_reducible (repeat (first | exact .blk | exact .rng | apply Rng.tl)))); (· (with_reducible (first | assumption | exact z32 | exact u8s_len (by assumption)))))
     | (with_reducible refine vote.a5 ?_)
     | ((with_reducible apply vote.r5 hs); (· (with_reducible (repeat (first | exact .blk | exact .rng | apply Rng.tl)))); (· (with_reducible (first | assumption | exact z32 | exact u8s_len (by assumption)))))
     | (with_reducible refine vote.c5 ?_)
     | ((with_reducible apply vote.e5); (· first | exact hS | exact hid); (· (with_reducible (repeat (first | exact .blk | exact .rng | apply Rng.tl)))); (· (with_reducible (first | assumption | exact z32 | exact u8s_len (by assumption)))))
     | (with_reducible refine comm.a0 ?_)
     | ((with_reducible apply comm.r0 hs); (· (with_reducible (repeat (first | exact .blk | exact .rng | apply Rng.tl)))))
     | (with_reducible refine comm.c0 ?_)
     | ((with_reducible apply comm.e0); (· first | exact hS | exact hid); (· (with_reducible (repeat (first | exact .blk | exact .rng | apply Rng.tl)))))
     | (with_reducible refine comm.a1 ?_)
     | ((with_reducible apply comm.r1 hs); (· (with_reducible (repeat (first | exact .blk | exact .rng | apply Rng.tl)))))
     | (with_reducible refine comm.c1 ?_)
     | ((with_reducible apply comm.e1); (· first | exact hS | exact hid); (· (with_reducible (repeat (first | exact .blk | exact .rng | apply Rng.tl)))))
     | (with_reducible refine comm.a2 ?_)
     | ((with_reducible apply comm.r2 hs); (· (with_reducible (repeat (first | exact .blk | exact .rng | apply Rng.tl)))); (· (with_reducible (first | assumption | exact z32 | exact u8s_len (by assumption)))))
     | (with_reducible refine comm.c2 ?_)
     | ((with_reducible apply comm.e2); (· first | exact hS | exact hid); (· (with_reducible (repeat (first | exact .blk | exact .rng | apply Rng.tl)))); (· (with_reducible (first | assumption | exact z32 | exact u8s_len (by assumption)))))
     | (with_reducible refine comm.a3 ?_)
     | ((with_reducible apply comm.r3 hs); (· (with_reducible (repeat (first | exact .blk | exact .rng | apply Rng.tl)))); (· (with_reducible (first | assumption | exact z32 | exact u8s_len (by assumption)))))
     | (with_reducible refine comm.c3 ?_)
     | ((with_reducible apply comm.e3); (· first | exact hS | exact hid); (· (with_reducible (repeat (first | exact .blk | exact .rng | apply Rng.tl)))); (· (with_reducible (first | assumption | exact z32 | exact u8s_len (by assumption)))))
     | (with_reducible (first | refine st_lens ?_ | refine st_eqls ?_ | refine st_nels ?_ | refine tk_eqls ?_ | refine tk_nels ?_ | refine mv.mk ?_ | refine nk_p ?_ | refine gdT_i ?_ | refine gdT_ft ?_ | refine gdT_tf ?_ | refine gdT_u ?_ | refine gd_u ?_ | refine gd_ft ?_ | refine gd_tf ?_ | refine gd_i ?_ | refine pk_t ?_ | refine pk_f ?_ | refine br_t ?_ | refine br_f ?_ | refine sp_boxa hs fun g w hs => ?_))
     | (with_reducible ((first | apply st_bin | apply st_ext | apply st_len | apply st_un | apply st_conv | apply st_mki | apply st_fld | apply st_cap | apply st_max | apply st_min | apply st_ixv | apply st_mkf); intro k' hk; simp [go_sem, thenR_ok, bin]; refine hk _ _ ?_; clear hk k'))
     | ((with_reducible (first | apply tk_bin | apply tk_ext | apply tk_len | apply tk_un)); (· intro w; simp [go_sem, bin]; rfl))
     | ((with_reducible apply sp_newr hs); (· kernel_rfl); intro g w hs))
    by_cases c3 : v.round = c.round
    rotate_left
    · rw [show (v.round != c.round) = true by simpa using c3]
      repeat (first
       | (with_reducible (first | refine st_lens ?_ | refine st_eqls ?_ | refine st_nels ?_ | refine tk_eqls ?_ | refine tk_nels ?_ | refine mv.mk ?_ | refine nk_p ?_ | refine gdT_i ?_ | refine gdT_ft ?_ | refine gdT_tf ?_ | refine gdT_u ?_ | refine gd_u ?_ | refine gd_ft ?_ | refine gd_tf ?_ | refine gd_i ?_ | refine pk_t ?_ | refine pk_f ?_ | refine br_t ?_ | refine br_f ?_ | refine sp_boxa hs fun g w hs => ?_))
       | (with_reducible ((first | apply st_bin | apply st_ext | apply st_len | apply st_un | apply st_conv | apply st_mki | apply st_fld | apply st_cap | apply st_max | apply st_min | apply st_ixv | apply st_mkf); intro k' hk; simp [go_sem, thenR_ok, bin]; refine hk _ _ ?_; clear hk k'))
       | ((with_reducible (first | apply tk_bin | apply tk_ext | apply tk_len | apply tk_un)); (· intro w; simp [go_sem, bin]; rfl))
       | ((with_reducible apply sp_newr hs); (· kernel_rfl); intro g w hs))
      exact hbad (.inr (.inr (.inl c3))) fun r w hs => mv.mk hs
    rw [show (v.round != c.round) = false by simpa using c3]
    repeat (first
     | (with_reducible refine vote.a0 ?_)
     | ((with_reducible apply vote.r0 hs); (· (with_reducible (repeat (first | exact .blk | exact .rng | apply Rng.tl)))))
     | (with_reducible refine vote.c0 ?_)
     | ((with_reducible apply vote.e0); (· first | exact hS | exact hid); (· (with_reducible (repeat (first | exact .blk | exact .rng | apply Rng.tl)))))
     | (with_reducible refine vote.a1 ?_)
     | ((with_reducible apply vote.r1 hs); (· (with_reducible (repeat (first | exact .blk | exact .rng | apply Rng.tl)))))
     | (with_reducible refine vote.c1 ?_)
     | ((with_reducible apply vote.e1); (· first | exact hS | exact hid); (· (with_reducible (repeat (first | exact .blk | exact .rng | apply Rng.tl)))))
     | (with_reducible refine vote.a2 ?_)
     | ((with_reducible apply vote.r2 hs); (· (with_reducible (repeat (first | exact .blk | exact .rng | apply Rng.tl)))))
     | (with_reducible refine vote.c2 ?_)
     | ((with_reducible apply vote.e2); (· first | exact hS | exact hid); (· (with_reducible (repeat (first | exact .blk | exact .rng | apply Rng.tl)))))
     | (with_reducible refine vote.a3 ?_)
     | ((with_reducible apply vote.r3 hs); (· (with_reducible (repeat (first | exact .blk | exact .rng | apply Rng.tl)))); (· (with_reducible (first | assumption | exact z32 | exact u8s_len (by assumption)))))
     | (with_reducible refine vote.c3 ?_)
     | ((with_reducible apply vote.e3); (· first | exact hS | exact hid); (· (with_reducible (repeat (first | exact .blk | exact .rng | apply Rng.tl)))); (· (with_reducible (first | assumption | exact z32 | exact u8s_len (by assumption)))))
     | (with_reducible refine vote.a4 ?_)
     | ((with_reducible apply vote.r4 hs); (· (with_reducible (repeat (first | exact .blk | exact .rng | apply Rng.tl)))); (· (with_reducible (first | assumption | exact z32 | exact u8s_len (by assumption)))))
     | (with_reducible refine vote.c4 ?_)
     | ((with_reducible apply vote.e4); (· first | exact hS | exact hid); (· (with_reducible (repeat (first | exact .blk | exact .rng | apply Rng.tl)))); (· (with_reducible (first | assumption | exact z32 | exact u8s_len (by assumption)))))
     | (with_reducible refine vote.a5 ?_)
     | ((with_reducible apply vote.r5 hs); (· (with_reducible (repeat (first | exact .blk | exact .rng | apply Rng.tl)))); (· (with_reducible (first | assumption | exact z32 | exact u8s_len (by assumption)))))
     | (with_reducible refine vote.c5 ?_)
     | ((with_reducible apply vote.e5); (· first | exact hS | exact hid); (· (with_reducible (repeat (first | exact .blk | exact .rng | apply Rng.tl)))); (· (with_reducible (first | assumption | exact z32 | exact u8s_len (by assumption)))))
     | (with_reducible refine comm.a0 ?_)
     | ((with_reducible apply comm.r0 hs); (· (with_reducible (repeat (first | exact .blk | exact .rng | apply Rng.tl)))))
     | (with_reducible refine comm.c0 ?_)
     | ((with_reducible apply comm.e0); (· first | exact hS | exact hid); (· (with_reducible (repeat (first | exact .blk | exact .rng | apply Rng.tl)))))
     | (with_reducible refine comm.a1 ?_)
     | ((with_reducible apply comm.r1 hs); (· (with_reducible (repeat (first | exact .blk | exact .rng | apply Rng.tl)))))
     | (with_reducible refine comm.c1 ?_)
     | ((with_reducible apply comm.e1); (· first | exact hS | exact hid); (· (with_reducible (repeat (first | exact .blk | exact .rng | apply Rng.tl)))))
     | (with_reducible refine comm.a2 ?_)
     | ((with_reducible apply comm.r2 hs); (· (with_reducible (repeat (first | exact .blk | exact .rng | apply Rng.tl)))); (· (with_reducible (first | assumption | exact z32 | exact u8s_len (by assumption)))))
     | (with_reducible refine comm.c2 ?_)
     | ((with_reducible apply comm.e2); (· first | exact hS | exact hid); (· (with_reducible (repeat (first | exact .blk | exact .rng | apply Rng.tl)))); (· (with_reducible (first | assumption | exact z32 | exact u8s_len (by assumption)))))
     | (with_reducible refine comm.a3 ?_)
     | ((with_reducible apply comm.r3 hs); (· (with_reducible (repeat (first | exact .blk | exact .rng | apply Rng.tl)))); (· (with_reducible (first | assumption | exact z32 | exact u8s_len (by assumption)))))
     | (with_reducible refine comm.c3 ?_)
     | ((with_reducible apply comm.e3); (· first | exact hS | exact hid); (· (with_reducible (repeat (first | exact .blk | exact .rng | apply Rng.tl)))); (· (with_reducible (first | assumption | exact z32 | exact u8s_len (by assumption)))))
     | (with_reducible (first | refine st_lens ?_ | refine st_eqls ?_ | refine st_nels ?_ | refine tk_eqls ?_ | refine tk_nels ?_ | refine mv.mk ?_ | refine nk_p ?_ | refine gdT_i ?_ | refine gdT_ft ?_ | refine gdT_tf ?_ | refine gdT_u ?_ | refine gd_u ?_ | refine gd_ft ?_ | refine gd_tf ?_ | refine gd_i ?_ | refine pk_t ?_ | refine pk_f ?_ | refine br_t ?_ | refine br_f ?_ | refine sp_boxa hs fun g w hs => ?_))
     | (with_reducible ((first | apply st_bin | apply st_ext | apply st_len | apply st_un | apply st_conv | apply st_mki | apply st_fld | apply st_cap | apply st_max | apply st_min | apply st_ixv | apply st_mkf); intro k' hk; simp [go_sem, thenR_ok, bin]; refine hk _ _ ?_; clear hk k'))
     | ((with_reducible (first | apply tk_bin | apply tk_ext | apply tk_len | apply tk_un)); (· intro w; simp [go_sem, bin]; rfl))
     | ((with_reducible apply sp_newr hs); (· kernel_rfl); intro g w hs))
    refine st_of (hash_ne hvb hblock _ _ _) ?_
    by_cases c4 : v.block = c.block
    rotate_left
    · rw [show (!decide (v.block = c.block)) = true by simpa using c4]
      repeat (first
       | (with_reducible (first | refine st_lens ?_ | refine st_eqls ?_ | refine st_nels ?_ | refine tk_eqls ?_ | refine tk_nels ?_ | refine mv.mk ?_ | refine nk_p ?_ | refine gdT_i ?_ | refine gdT_ft ?_ | refine gdT_tf ?_ | refine gdT_u ?_ | refine gd_u ?_ | refine gd_ft ?_ | refine gd_tf ?_ | refine gd_i ?_ | refine pk_t ?_ | refine pk_f ?_ | refine br_t ?_ | refine br_f ?_ | refine sp_boxa hs fun g w hs => ?_))
       | (with_reducible ((first | apply st_bin | apply st_ext | apply st_len | apply st_un | apply st_conv | apply st_mki | apply st_fld | apply st_cap | apply st_max | apply st_min | apply st_ixv | apply st_mkf); intro k' hk; simp [go_sem, thenR_ok, bin]; refine hk _ _ ?_; clear hk k'))
       | ((with_reducible (first | apply tk_bin | apply tk_ext | apply tk_len | apply tk_un)); (· intro w; simp [go_sem, bin]; rfl))
       | ((with_reducible apply sp_newr hs); (· kernel_rfl); intro g w hs))
      exact hbad (.inr (.inr (.inr (.inl c4)))) fun r w hs => mv.mk hs
    rw [show (!decide (v.block = c.block)) = false by simpa using c4]
    repeat (first
     | (with_reducible refine vote.a0 ?_)
     | ((with_reducible apply vote.r0 hs); (· (with_reducible (repeat (first | exact .blk | exact .rng | apply Rng.tl)))))
     | (with_reducible refine vote.c0 ?_)
     | ((with_reducible apply vote.e0); (· first | exact hS | exact hid); (· (with_reducible (repeat (first | exact .blk | exact .rng | apply Rng.tl)))))
     | (with_reducible refine vote.a1 ?_)
     | ((with_reducible apply vote.r1 hs); (· (with_reducible (repeat (first | exact .blk | exact .rng | apply Rng.tl)))))
     | (with_reducible refine vote.c1 ?_)
     | ((with_reducible apply vote.e1); (· first | exact hS | exact hid); (· (with_reducible (repeat (first | exact .blk | exact .rng | apply Rng.tl)))))
     | (with_reducible refine vote.a2 ?_)
     | ((with_reducible apply vote.r2 hs); (· (with_reducible (repeat (first | exact .blk | exact .rng | apply Rng.tl)))))
     | (with_reducible refine vote.c2 ?_)
     | ((with_reducible apply vote.e2); (· first | exact hS | exact hid); (· (with_reducible (repeat (first | exact .blk | exact .rng | apply Rng.tl)))))
     | (with_reducible refine vote.a3 ?_)
     | ((with_reducible apply vote.r3 hs); (· (with_reducible (repeat (first | exact .blk | exact .rng | apply Rng.tl)))); (· (with_reducible (first | assumption | exact z32 | exact u8s_len (by assumption)))))
     | (with_reducible refine vote.c3 ?_)
     | ((with_reducible apply vote.e3); (· first | exact hS | exact hid); (· (with_reducible (repeat (first | exact .blk | exact .rng | apply Rng.tl)))); (· (with_reducible (first | assumption | exact z32 | exact u8s_len (by assumption)))))
     | (with_reducible refine vote.a4 ?_)
     | ((with_reducible apply vote.r4 hs); (· (with_reducible (repeat (first | exact .blk | exact .rng | apply Rng.tl)))); (· (with_reducible (first | assumption | exact z32 | exact u8s_len (by assumption)))))
     | (with_reducible refine vote.c4 ?_)
     | ((with_reducible apply vote.e4); (· first | exact hS | exact hid); (· (with_reducible (repeat (first | exact .blk | exact .rng | apply Rng.tl)))); (· (with_reducible (first | assumption | exact z32 | exact u8s_len (by assumption)))))
     | (with_reducible refine vote.a5 ?_)
     | ((with_reducible apply vote.r5 hs); (· (with_reducible (repeat (first | exact .blk | exact .rng | apply Rng.tl)))); (· (with_reducible (first | assumption | exact z32 | exact u8s_len (by assumption)))))
     | (with_reducible refine vote.c5 ?_)
     | ((with_reducible apply vote.e5); (· first | exact hS | exact hid); (· (with_reducible (repeat (first | exact .blk | exact .rng | apply Rng.tl)))); (· (with_reducible (first | assumption | exact z32 | exact u8s_len (by assumption)))))
     | (with_reducible refine comm.a0 ?_)
     | ((with_reducible apply comm.r0 hs); (· (with_reducible (repeat (first | exact .blk | exact .rng | apply Rng.tl)))))
     | (with_reducible refine comm.c0 ?_)
     | ((with_reducible apply comm.e0); (· first | exact hS | exact hid); (· (with_reducible (repeat (first | exact .blk | exact .rng | apply Rng.tl)))))
     | (with_reducible refine comm.a1 ?_)
     | ((with_reducible apply comm.r1 hs); (· (with_reducible (repeat (first | exact .blk | exact .rng | apply Rng.tl)))))
     | (with_reducible refine comm.c1 ?_)
     | ((with_reducible apply comm.e1); (· first | exact hS | exact hid); (· (with_reducible (repeat (first | exact .blk | exact .rng | apply Rng.tl)))))
     | (with_reducible refine comm.a2 ?_)
     | ((with_reducible apply comm.r2 hs); (· (with_reducible (repeat (first | exact .blk | exact .rng | apply Rng.tl)))); (· (with_reducible (first | assumption | exact z32 | exact u8s_len (by assumption)))))
     | (with_reducible refine comm.c2 ?_)
     | ((with_reducible apply comm.e2); (· first | exact hS | exact hid); (· (with_reducible (repeat (first | exact .blk | exact .rng | apply Rng.tl)))); (· (with_reducible (first | assumption | exact z32 | exact u8s_len (by assumption)))))
     | (with_reducible refine comm.a3 ?_)
     | ((with_reducible apply comm.r3 hs); (· (with_reducible (repeat (first | exact .blk | exact .rng | apply Rng.tl)))); (· (with_reducible (first | assumption | exact z32 | exact u8s_len (by assumption)))))
     | (with_reducible refine comm.c3 ?_)
     | ((with_reducible apply comm.e3); (· first | exact hS | exact hid); (· (with_reducible (repeat (first | exact .blk | exact .rng | apply Rng.tl)))); (· (with_reducible (first | assumption | exact z32 | exact u8s_len (by assumption)))))
     | (with_reducible (first | refine st_lens ?_ | refine st_eqls ?_ | refine st_nels ?_ | refine tk_eqls ?_ | refine tk_nels ?_ | refine mv.mk ?_ | refine nk_p ?_ | refine gdT_i ?_ | refine gdT_ft ?_ | refine gdT_tf ?_ | refine gdT_u ?_ | refine gd_u ?_ | refine gd_ft ?_ | refine gd_tf ?_ | refine gd_i ?_ | refine pk_t ?_ | refine pk_f ?_ | refine br_t ?_ | refine br_f ?_ | refine sp_boxa hs fun g w hs => ?_))
     | (with_reducible ((first | apply st_bin | apply st_ext | apply st_len | apply st_un | apply st_conv | apply st_mki | apply st_fld | apply st_cap | apply st_max | apply st_min | apply st_ixv | apply st_mkf); intro k' hk; simp [go_sem, thenR_ok, bin]; refine hk _ _ ?_; clear hk k'))
     | ((with_reducible (first | apply tk_bin | apply tk_ext | apply tk_len | apply tk_un)); (· intro w; simp [go_sem, bin]; rfl))
     | ((with_reducible apply sp_newr hs); (· kernel_rfl); intro g w hs))
    by_cases c5 : v.validator ≤ last
    · rw [decide_eq_true c5]
      repeat (first
       | (with_reducible (first | refine st_lens ?_ | refine st_eqls ?_ | refine st_nels ?_ | refine tk_eqls ?_ | refine tk_nels ?_ | refine mv.mk ?_ | refine nk_p ?_ | refine gdT_i ?_ | refine gdT_ft ?_ | refine gdT_tf ?_ | refine gdT_u ?_ | refine gd_u ?_ | refine gd_ft ?_ | refine gd_tf ?_ | refine gd_i ?_ | refine pk_t ?_ | refine pk_f ?_ | refine br_t ?_ | refine br_f ?_ | refine sp_boxa hs fun g w hs => ?_))
       | (with_reducible ((first | apply st_bin | apply st_ext | apply st_len | apply st_un | apply st_conv | apply st_mki | apply st_fld | apply st_cap | apply st_max | apply st_min | apply st_ixv | apply st_mkf); intro k' hk; simp [go_sem, thenR_ok, bin]; refine hk _ _ ?_; clear hk k'))
       | ((with_reducible (first | apply tk_bin | apply tk_ext | apply tk_len | apply tk_un)); (· intro w; simp [go_sem, bin]; rfl))
       | ((with_reducible apply sp_newr hs); (· kernel_rfl); intro g w hs))
      exact hbad (.inr (.inr (.inr (.inr c5)))) fun r w hs => mv.mk hs
    rw [decide_eq_false c5]
    have hcv : ¬ cvBad c last v := by unfold cvBad; simp only [c1, c2, c3, c4, c5, not_true, or_false, not_false_eq_true]
    repeat (first
     | (with_reducible (first | refine st_lens ?_ | refine st_eqls ?_ | refine st_nels ?_ | refine tk_eqls ?_ | refine tk_nels ?_ | refine mv.mk ?_ | refine nk_p ?_ | refine gdT_i ?_ | refine gdT_ft ?_ | refine gdT_tf ?_ | refine gdT_u ?_ | refine gd_u ?_ | refine gd_ft ?_ | refine gd_tf ?_ | refine gd_i ?_ | refine pk_t ?_ | refine pk_f ?_ | refine br_t ?_ | refine br_f ?_ | refine sp_boxa hs fun g w hs => ?_))
     | (with_reducible ((first | apply st_bin | apply st_ext | apply st_len | apply st_un | apply st_conv | apply st_mki | apply st_fld | apply st_cap | apply st_max | apply st_min | apply st_ixv | apply st_mkf); intro k' hk; simp [go_sem, thenR_ok, bin]; refine hk _ _ ?_; clear hk k'))
     | ((with_reducible (first | apply tk_bin | apply tk_ext | apply tk_len | apply tk_un)); (· intro w; simp [go_sem, bin]; rfl))
     | ((with_reducible apply sp_newr hs); (· kernel_rfl); intro g w hs))
    have hbl := voteBytes_len vok hch
    have hvl := hvo.1
    refine sp_loadall hs (by first | ((repeat (first | with_reducible exact Has.hd | with_reducible apply Has.tl)); done) | (repeat (first | exact Has.hd | with_reducible apply Has.tl))) (by kernel_rfl) rfl ?_
    refine sp_loadall hs (by first | ((repeat (first | with_reducible exact Has.hd | with_reducible apply Has.tl)); done) | (repeat (first | exact Has.hd | with_reducible apply Has.tl))) (by kernel_rfl) hvl ?_
    refine cl (types_VerifyVote (l := l) (v := v) (chain := chain) (dg := dg) (dp := dp) hs (by repeat (first | exact hR | apply Ins.tl)) (by repeat (first | exact hl | apply Ins.tl)) (by repeat (first | with_reducible exact Ins.hd | with_reducible apply Ins.tl)) hvs2 (by omega)) ?_
    rintro e2 w hs
    repeat with_reducible refine mv.mk ?_
    refine st_of (err_neq hs .hd) ?_
    by_cases c6 : verifyVote chain l dg dp v = 0
    rotate_left
    · rw [decide_eq_false c6]
      refine br_t ?_
      repeat with_reducible refine mv.mk ?_
      rw [hV, hgo]
      simp only [cvGo, if_neg hcv, if_pos (show verifyVote chain l dg dp v ≠ 0 from c6)]
      exact hs.sbl (.cons .hd (.drop (.drop (.drop (.drop (.drop (.drop .all)))))))
    rw [decide_eq_true c6]
    refine br_f ?_
    have hvb2 : ¬ voteBad l.length v := by
      intro h
      rw [verifyVote, if_pos h] at c6
      cases c6
    have hlt : v.validator.toNat < l.length := by unfold voteBad at hvb2; omega
    have hlt2 : v.validator = (v.validator.toNat : Int) := by unfold voteBad at hvb2; omega
    simp only [cvGo, if_neg hcv, if_neg (show ¬ verifyVote chain l dg dp v ≠ 0 from fun h => h c6)] at hgo
    have hpw : powerOf l v.validator = l[v.validator.toNat].power := by unfold powerOf; rw [List.getElem?_eq_getElem hlt]
    repeat (first
     | (with_reducible refine vote.a0 ?_)
     | ((with_reducible apply vote.r0 hs); (· (with_reducible (repeat (first | exact .blk | exact .rng | apply Rng.tl)))))
     | (with_reducible refine vote.c0 ?_)
     | ((with_reducible apply vote.e0); (· first | exact hS | exact hid); (· (with_reducible (repeat (first | exact .blk | exact .rng | apply Rng.tl)))))
     | (with_reducible refine vote.a1 ?_)
     | ((with_reducible apply vote.r1 hs); (· (with_reducible (repeat (first | exact .blk | exact .rng | apply Rng.tl)))))
     | (with_reducible refine vote.c1 ?_)
     | ((with_reducible apply vote.e1); (· first | exact hS | exact hid); (· (with_reducible (repeat (first | exact .blk | exact .rng | apply Rng.tl)))))
     | (with_reducible refine vote.a2 ?_)
     | ((with_reducible apply vote.r2 hs); (· (with_reducible (repeat (first | exact .blk | exact .rng | apply Rng.tl)))))
     | (with_reducible refine vote.c2 ?_)
     | ((with_reducible apply vote.e2); (· first | exact hS | exact hid); (· (with_reducible (repeat (first | exact .blk | exact .rng | apply Rng.tl)))))
     | (with_reducible refine vote.a3 ?_)
     | ((with_reducible apply vote.r3 hs); (· (with_reducible (repeat (first | exact .blk | exact .rng | apply Rng.tl)))); (· (with_reducible (first | assumption | exact z32 | exact u8s_len (by assumption)))))
     | (with_reducible refine vote.c3 ?_)
     | ((with_reducible apply vote.e3); (· first | exact hS | exact hid); (· (with_reducible (repeat (first | exact .blk | exact .rng | apply Rng.tl)))); (· (with_reducible (first | assumption | exact z32 | exact u8s_len (by assumption)))))
     | (with_reducible refine vote.a4 ?_)
     | ((with_reducible apply vote.r4 hs); (· (with_reducible (repeat (first | exact .blk | exact .rng | apply Rng.tl)))); (· (with_reducible (first | assumption | exact z32 | exact u8s_len (by assumption)))))
     | (with_reducible refine vote.c4 ?_)
     | ((with_reducible apply vote.e4); (· first | exact hS | exact hid); (· (with_reducible (repeat (first | exact .blk | exact .rng | apply Rng.tl)))); (· (with_reducible (first | assumption | exact z32 | exact u8s_len (by assumption)))))
     | (with_reducible refine vote.a5 ?_)
     | ((with_reducible apply vote.r5 hs); (· (with_reducible (repeat (first | exact .blk | exact .rng | apply Rng.tl)))); (· (with_reducible (first | assumption | exact z32 | exact u8s_len (by assumption)))))
     | (with_reducible refine vote.c5 ?_)
     | ((with_reducible apply vote.e5); (· first | exact hS | exact hid); (· (with_reducible (repeat (first | exact .blk | exact .rng | apply Rng.tl)))); (· (with_reducible (first | assumption | exact z32 | exact u8s_len (by assumption)))))
     | (with_reducible (first | refine st_lens ?_ | refine st_eqls ?_ | refine st_nels ?_ | refine tk_eqls ?_ | refine tk_nels ?_ | refine mv.mk ?_ | refine nk_p ?_ | refine gdT_i ?_ | refine gdT_ft ?_ | refine gdT_tf ?_ | refine gdT_u ?_ | refine gd_u ?_ | refine gd_ft ?_ | refine gd_tf ?_ | refine gd_i ?_ | refine pk_t ?_ | refine pk_f ?_ | refine br_t ?_ | refine br_f ?_ | refine sp_boxa hs fun g w hs => ?_))
     | (with_reducible ((first | apply st_bin | apply st_ext | apply st_len | apply st_un | apply st_conv | apply st_mki | apply st_fld | apply st_cap | apply st_max | apply st_min | apply st_ixv | apply st_mkf); intro k' hk; simp [go_sem, thenR_ok, bin]; refine hk _ _ ?_; clear hk k'))
     | ((with_reducible (first | apply tk_bin | apply tk_ext | apply tk_len | apply tk_un)); (· intro w; simp [go_sem, bin]; rfl))
     | ((with_reducible apply sp_newr hs); (· kernel_rfl); intro g w hs))
    obtain ⟨g3, o3, xs, hrun, hxl, hs⟩ := hs.el (F := valiF) (sv := .slice A l.length cp) (ls := l) (by repeat (first | exact hl | apply Ins.tl)) tVals _ hlt
    obtain ⟨rfl, hxo⟩ := vali_of hs (x := l[v.validator.toNat]) (by repeat (first | with_reducible exact Ins.hd | with_reducible apply Ins.tl))
    have hxk := hxo.key
    rw [← hlt2] at hrun
    refine st_of (hrun .i64 _) ?_
    repeat (first
     | (with_reducible refine vali.a0 ?_)
     | ((with_reducible apply vali.r0 hs); (· (with_reducible (repeat (first | exact .blk | exact .rng | apply Rng.tl)))))
     | (with_reducible refine vali.c0 ?_)
     | ((with_reducible apply vali.e0); (· first | exact hS | exact hid); (· (with_reducible (repeat (first | exact .blk | exact .rng | apply Rng.tl)))))
     | (with_reducible refine vali.a1 ?_)
     | ((with_reducible apply vali.r1 hs); (· (with_reducible (repeat (first | exact .blk | exact .rng | apply Rng.tl)))); (· (with_reducible (first | assumption | exact z32 | exact u8s_len (by assumption)))))
     | (with_reducible refine vali.c1 ?_)
     | ((with_reducible apply vali.e1); (· first | exact hS | exact hid); (· (with_reducible (repeat (first | exact .blk | exact .rng | apply Rng.tl)))); (· (with_reducible (first | assumption | exact z32 | exact u8s_len (by assumption)))))
     | (with_reducible refine vali.a2 ?_)
     | ((with_reducible apply vali.r2 hs); (· (with_reducible (repeat (first | exact .blk | exact .rng | apply Rng.tl)))); (· (with_reducible (first | assumption | exact z32 | exact u8s_len (by assumption)))))
     | (with_reducible refine vali.c2 ?_)
     | ((with_reducible apply vali.e2); (· first | exact hS | exact hid); (· (with_reducible (repeat (first | exact .blk | exact .rng | apply Rng.tl)))); (· (with_reducible (first | assumption | exact z32 | exact u8s_len (by assumption)))))
     | (with_reducible (first | refine st_lens ?_ | refine st_eqls ?_ | refine st_nels ?_ | refine tk_eqls ?_ | refine tk_nels ?_ | refine mv.mk ?_ | refine nk_p ?_ | refine gdT_i ?_ | refine gdT_ft ?_ | refine gdT_tf ?_ | refine gdT_u ?_ | refine gd_u ?_ | refine gd_ft ?_ | refine gd_tf ?_ | refine gd_i ?_ | refine pk_t ?_ | refine pk_f ?_ | refine br_t ?_ | refine br_f ?_ | refine sp_boxa hs fun g w hs => ?_))
     | (with_reducible ((first | apply st_bin | apply st_ext | apply st_len | apply st_un | apply st_conv | apply st_mki | apply st_fld | apply st_cap | apply st_max | apply st_min | apply st_ixv | apply st_mkf); intro k' hk; simp [go_sem, thenR_ok, bin]; refine hk _ _ ?_; clear hk k'))
     | ((with_reducible (first | apply tk_bin | apply tk_ext | apply tk_len | apply tk_un)); (· intro w; simp [go_sem, bin]; rfl))
     | ((with_reducible apply sp_newr hs); (· kernel_rfl); intro g w hs))
    rw [i64_succ (by omega)]
    refine ⟨⟨i + 1, _, _, _, _, rfl, hi', ?_, hs.sbl (.drop (.drop (.drop (.drop (.drop .all)))))⟩, by simp; omega⟩
    rw [hgo, hpw]
  · obtain rfl : i = c.votes.length := by have := of_decide_eq_false hq; omega
    rw [List.drop_length] at hgo
    simp only [cvGo] at hgo
    rw [hgo] at hV
    simp only [ne_eq, not_true, if_false] at hV
    repeat (first
     | (with_reducible (first | refine st_lens ?_ | refine st_eqls ?_ | refine st_nels ?_ | refine tk_eqls ?_ | refine tk_nels ?_ | refine mv.mk ?_ | refine nk_p ?_ | refine gdT_i ?_ | refine gdT_ft ?_ | refine gdT_tf ?_ | refine gdT_u ?_ | refine gd_u ?_ | refine gd_ft ?_ | refine gd_tf ?_ | refine gd_i ?_ | refine pk_t ?_ | refine pk_f ?_ | refine br_t ?_ | refine br_f ?_ | refine sp_boxa hs fun g w hs => ?_))
     | (with_reducible ((first | apply st_bin | apply st_ext | apply st_len | apply st_un | apply st_conv | apply st_mki | apply st_fld | apply st_cap | apply st_max | apply st_min | apply st_ixv | apply st_mkf); intro k' hk; simp [go_sem, thenR_ok, bin]; refine hk _ _ ?_; clear hk k'))
     | ((with_reducible (first | apply tk_bin | apply tk_ext | apply tk_len | apply tk_un)); (· intro w; simp [go_sem, bin]; rfl))
     | ((with_reducible apply sp_newr hs); (· kernel_rfl); intro g w hs))
    refine cl (types_Total hs (l := l) (sv := .slice A l.length cp) (.tl (.tl (.tl (.tl hl.lst)))) hn) ?_
    rintro _ w ⟨rfl, hs⟩
    repeat (first
     | (with_reducible (first | refine st_lens ?_ | refine st_eqls ?_ | refine st_nels ?_ | refine tk_eqls ?_ | refine tk_nels ?_ | refine mv.mk ?_ | refine nk_p ?_ | refine gdT_i ?_ | refine gdT_ft ?_ | refine gdT_tf ?_ | refine gdT_u ?_ | refine gd_u ?_ | refine gd_ft ?_ | refine gd_tf ?_ | refine gd_i ?_ | refine pk_t ?_ | refine pk_f ?_ | refine br_t ?_ | refine br_f ?_ | refine sp_boxa hs fun g w hs => ?_))
     | (with_reducible ((first | apply st_bin | apply st_ext | apply st_len | apply st_un | apply st_conv | apply st_mki | apply st_fld | apply st_cap | apply st_max | apply st_min | apply st_ixv | apply st_mkf); intro k' hk; simp [go_sem, thenR_ok, bin]; refine hk _ _ ?_; clear hk k'))
     | ((with_reducible (first | apply tk_bin | apply tk_ext | apply tk_len | apply tk_un)); (· intro w; simp [go_sem, bin]; rfl))
     | ((with_reducible apply sp_newr hs); (· kernel_rfl); intro g w hs))
    rw [hV]
    refine br_split (fun hq => ?_) (fun hq => ?_)
    · refine cl (types_fault (by decide) (by decide) (by decide) hs) ?_
      rintro r w hs
      repeat with_reducible refine mv.mk ?_
      rw [if_pos (by simpa using hq)]
      exact hs.sbl (.cons .hd (.drop (.drop (.drop (.drop .all)))))
    · repeat with_reducible refine mv.mk ?_
      rw [if_neg (by simpa using hq)]
      exact (errF_nil hs).sbl (.cons .hd (.drop (.drop (.drop (.drop .all)))))
end
end Go.Proofs.YtlfelmikcdmkhaaDoor
