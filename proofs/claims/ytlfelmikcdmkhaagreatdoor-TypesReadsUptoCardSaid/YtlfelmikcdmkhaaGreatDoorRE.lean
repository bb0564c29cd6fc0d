/- The document's answer, chapter 11: things as bytes. Printed by gen_re.py. -/
import Derived.Test.YtlfelmikcdmkhaaGreatDoorR2
set_option linter.unusedVariables false
set_option linter.unusedSimpArgs false
set_option linter.unusedSectionVars false
namespace Go.Proofs.YtlfelmikcdmkhaaGreatDoor
open Go Go.Isk Go.RowKit
theorem NewB.then {w0 w w' : World} {r r' : Value} {l l' : Bytes} (h : NewB w0 r w l) (h' : NewB w r' w' l') : NewB w0 r' w' l' := NewB.after h.2.1 h'
theorem NewB.drew {w0 w : World} {r : Value} {l : Bytes} (h : NewB w0 r w l) : NewB w0 r w.drew l := ⟨h.1.ext upd_drew, h.2.1.drew, h.2.2⟩
theorem isthmusref11_Vote {B : Nat} {w : World} {b : Value} {l : Bytes} {cs : List Value} {v : Vote} (hb : Sl w b l.length 1 (u8s l)) (hv : VoteIs B w cs v) (hl : l.length + (encVote v).length + 10 ≤ 2147483648) :
    C Tryz.prog N.isthmusref11_Vote #[b, .agg cs.toArray] w fun r w' => NewB w r w' (l ++ encVote v) := by
  obtain ⟨sv, rfl, hok, hs⟩ := hv
  refine C.isthmusref11_Vote ?_
  unfold F.isthmusref11_Vote
  refine st_box rfl fun g2 w1 hb1 hu0 hg2 => ?_
  have hu1 : Ext w w1.drew := hu0.drew
  have hb1' : Blk w1.drew g2 _ _ := hb1.ext upd_drew
  have hblk := u8s_len hok.block
  have hbl := hok.block
  have hs1 := hs.ext hu1
  simp only [encVote, encI, encB, List.length_append] at hl
  simp only [encVote, encI]
  refine mv.mk ?_
  refine dr_by (fun w' => Blk w' g2 T.api_Vote (voteC (.int .i64 v.kind) (.int .i64 v.height) (.int .i64 v.round) (u8s v.block) (.int .i64 v.validator) sv)) (hb1') ?_
  refine mv.mk ?_
  refine vote.t0 (fun _ h => h) ?_
  refine vote.t1 (fun _ h => h) ?_
  refine vote.t2 (fun _ h => h) ?_
  refine vote.t3 hblk (fun _ h => h) ?_
  refine (isthmusref02_Int (hb.ext hu1) hok.kind (by omega)).mono fun r w2 h2 => ?_
  have h2 := NewO.b h2
  refine ⟨hb1'.ext h2.2.1, ?_⟩
  refine (isthmusref02_Int h2.1 hok.height (by simp only [encI, List.length_append]; omega)).mono fun r w3 h3 => ?_
  have h3 := NewB.then h2 h3.b
  refine ⟨hb1'.ext h3.2.1, ?_⟩
  refine (isthmusref02_Int h3.1 hok.round (by simp only [encI, List.length_append]; omega)).mono fun r w4 h4 => ?_
  have h4 := NewB.then h3 h4.b
  refine ⟨hb1'.ext h4.2.1, ?_⟩
  refine (isthmusref02_Hash h4.1 hok.block (by simp only [encI, List.length_append]; omega)).mono fun r w5 h5 => ?_
  have h5 := NewB.then h4 h5.b
  refine ⟨hb1'.ext h5.2.1, ?_⟩
  refine mv.mk ?_
  have h6 := h5.drew
  refine dr_by (fun w' => Blk w' g2 T.api_Vote (voteC (.int .i64 v.kind) (.int .i64 v.height) (.int .i64 v.round) (u8s v.block) (.int .i64 v.validator) sv)) (hb1'.ext h6.2.1) ?_
  refine mv.mk ?_
  refine vote.t4 hblk (fun _ h => h) ?_
  refine vote.t5 hblk (fun _ h => h) ?_
  refine (isthmusref02_Int h6.1 hok.validator (by simp only [encI, List.length_append]; omega)).mono fun r w7 h7 => ?_
  have h7 := NewB.then h6 h7.b
  refine ⟨hb1'.ext h7.2.1, ?_⟩
  refine (isthmusref02_Bytes h7.1 (hs1.1.ext h7.2.1) (by simp only [encI, List.length_append]; omega)).mono fun r w8 h8 => ?_
  have h8 := NewB.then h7 h8.b
  refine ⟨hb1'.ext h8.2.1, ?_⟩
  refine mv.mk ?_
  have := NewB.after hu1 h8
  simpa only [encI, List.append_assoc] using this
theorem isthmusref11_Commit {B : Nat} {w : World} {b : Value} {l : Bytes} {cs : List Value} {c : Commit} (hb : Sl w b l.length 1 (u8s l)) (hv : CommIs B w cs c) (hl : l.length + (encCommit c).length + 10 ≤ 2147483648) (hn : c.votes.length ≤ 2147483648) :
    C Tryz.prog N.isthmusref11_Commit #[b, .agg cs.toArray] w fun r w' => NewB w r w' (l ++ encCommit c) := by
  obtain ⟨sv, rfl, hok, hs⟩ := hv
  obtain ⟨A, cap, rfl⟩ := hs.len
  refine C.isthmusref11_Commit ?_
  unfold F.isthmusref11_Commit
  refine st_box rfl fun g2 w1 hb1 hu0 hg2 => ?_
  have hu1 : Ext w w1.drew := hu0.drew
  have hb1' : Blk w1.drew g2 _ _ := hb1.ext upd_drew
  have hblk := u8s_len hok.block
  have hbl := hok.block
  have hs1 := VotesIs.keep hs hu1 (fun _ h => h.elim)
  simp only [encCommit, encL, encI, List.length_append] at hl
  simp only [encCommit, encL, encI]
  refine mv.mk ?_
  refine dr_by (fun w' => Blk w' g2 T.api_Commit (commC (.int .i64 c.height) (.int .i64 c.round) (u8s c.block) (.slice A c.votes.length cap))) (hb1') ?_
  refine mv.mk ?_
  refine comm.t0 (fun _ h => h) ?_
  refine comm.t1 (fun _ h => h) ?_
  refine comm.t2 hblk (fun _ h => h) ?_
  refine comm.t3 hblk (fun _ h => h) ?_
  refine tk_of (.int .i64 c.votes.length) (fun w _ => by simp [go_sem]) ?_
  refine tk_of (.int .u64 (c.votes.length : Nat)) (fun w _ => by simp [go_sem, u64_wrap]; omega) ?_
  refine (isthmusref02_Int (hb.ext hu1) hok.height (by omega)).mono fun r w2 h2 => ?_
  have h2 := NewO.b h2
  refine ⟨hb1'.ext h2.2.1, ?_⟩
  refine (isthmusref02_Int h2.1 hok.round (by simp only [encI, List.length_append]; omega)).mono fun r w3 h3 => ?_
  have h3 := NewB.then h2 h3.b
  refine ⟨hb1'.ext h3.2.1, ?_⟩
  refine (isthmusref02_Hash h3.1 hok.block (by simp only [encI, List.length_append]; omega)).mono fun r w4 h4 => ?_
  have h4 := NewB.then h3 h4.b
  refine ⟨hb1'.ext h4.2.1, ?_⟩
  refine (isthmusref02_Uint h4.1 (n := c.votes.length) (by omega) (by simp only [encI, List.length_append]; omega)).mono fun r w5 h5 => ?_
  have h5 := NewB.then h4 h5.b
  refine ⟨hb1'.ext h5.2.1, ?_⟩
  refine mv.mk (mv.mk ?_)
  refine lp_by (fun vs w' => ∃ (r : Value) (i : Nat), vs = [r, .int .i64 i] ∧ i ≤ c.votes.length ∧ NewB w1.drew r w' (l ++ encI c.height ++ encI c.round ++ c.block ++ encU c.votes.length ++ ((c.votes.take i).map encVote).flatten)) (fun vs _ => match vs with | [_, .int _ m] => c.votes.length - m.toNat | _ => 0) ⟨_, 0, rfl, Nat.zero_le _, by simpa using h5⟩ ?_
  rintro x w6 ⟨r, i, hx, hi, h6⟩
  simp only [List.cons.injEq, and_true] at hx
  rw [hx.1, hx.2]
  refine mv.mk ?_
  refine comm.g3 hblk (hb1'.ext h6.2.1) ?_
  repeat (first
    | (refine st1 fun k' hk => ?_; simp [go_sem, thenR_ok, bin]; refine hk _ _ ?_; clear hk k')
    | (refine mv.mk ?_))
  refine br_split (fun hb => ?_) (fun hb => ?_)
  · have hi' : i < c.votes.length := by simpa using hb
    have hs6 := VotesIs.keep hs1 h6.2.1 fun _ h => h.elim
    have hfl := encL_take encVote hi'
    refine mv.mk ?_
    refine comm.g3 hblk (hb1'.ext h6.2.1) (mv.mk ?_)
    refine st_idx hs6 tVotes i rfl hi' fun g3 o3 y hr hyl hyv hg3 => ?_
    refine st_of (load_agg (by kernel_rfl) hr hyl) ?_
    refine (isthmusref11_Vote h6.1 hyv (by simp only [encI, List.length_append]; omega)).mono fun r w8 h8 => ?_
    have h8 := NewB.then h6 h8
    repeat (first
      | (refine st1 fun k' hk => ?_; simp [go_sem, thenR_ok, bin]; refine hk _ _ ?_; clear hk k')
      | (refine mv.mk ?_))
    refine ⟨⟨_, i + 1, by rw [i64_wrap (by omega) (by omega)]; rfl, hi', ?_⟩, ?_⟩
    · rw [flat_take_succ encVote hi', ← List.append_assoc]; exact h8
    · rw [i64_wrap (by omega) (by omega)]; simp; omega
  · have hi' : i = c.votes.length := by have : ¬ i < c.votes.length := by simpa using hb
                                        omega
    subst hi'
    refine mv.mk (mv.mk ?_)
    rw [List.take_length] at h6
    have := NewB.after hu1 h6
    simpa only [encI, List.append_assoc] using this
theorem isthmusref11_Header {w : World} {b : Value} {l : Bytes} {cs : List Value} {h : Header} (hb : Sl w b l.length 1 (u8s l)) (hv : HeadIs cs h) (hl : l.length + (encHeader h).length + 10 ≤ 2147483648) :
    C Tryz.prog N.isthmusref11_Header #[b, .agg cs.toArray] w fun r w' => NewB w r w' (l ++ encHeader h) := by
  obtain ⟨rfl, hok⟩ := hv
  refine C.isthmusref11_Header ?_
  unfold F.isthmusref11_Header
  refine st_box rfl fun g2 w1 hb1 hu0 hg2 => ?_
  have hu1 : Ext w w1.drew := hu0.drew
  have hb1' : Blk w1.drew g2 _ _ := hb1.ext upd_drew
  have k_last := u8s_len hok.last
  have l_last := hok.last
  have k_app := u8s_len hok.app
  have l_app := hok.app
  have k_txs := u8s_len hok.txs
  have l_txs := hok.txs
  have k_validators := u8s_len hok.validators
  have l_validators := hok.validators
  have k_next := u8s_len hok.next
  have l_next := hok.next
  simp only [encHeader, encI, encB, List.length_append] at hl
  simp only [encHeader]
  refine mv.mk ?_
  refine dr_by (fun w' => Blk w' g2 T.api_Header (headC (str h.chain) (.int .i64 h.height) (.int .i64 h.time) (u8s h.last) (u8s h.app) (u8s h.txs) (u8s h.validators) (u8s h.next) (.int .i64 h.proposer))) (hb1') ?_
  refine mv.mk ?_
  refine head.t0 (fun _ h => h) ?_
  refine head.t1 (fun _ h => h) ?_
  refine head.t2 (fun _ h => h) ?_
  refine (isthmusref02_Text (hb.ext hu1) (by omega)).mono fun r w2 h2 => ?_
  have h2 := NewO.b h2
  refine ⟨hb1'.ext h2.2.1, ?_⟩
  refine (isthmusref02_Int h2.1 hok.height (by simp only [encI, encB, List.length_append]; omega)).mono fun r w3 h3 => ?_
  have h3 := NewB.then h2 h3.b
  refine ⟨hb1'.ext h3.2.1, ?_⟩
  refine (isthmusref02_Int h3.1 hok.time (by simp only [encI, encB, List.length_append]; omega)).mono fun r w4 h4 => ?_
  have h4 := NewB.then h3 h4.b
  refine ⟨hb1'.ext h4.2.1, ?_⟩
  refine mv.mk ?_
  have h5 := h4.drew
  refine dr_by (fun w' => Blk w' g2 T.api_Header (headC (str h.chain) (.int .i64 h.height) (.int .i64 h.time) (u8s h.last) (u8s h.app) (u8s h.txs) (u8s h.validators) (u8s h.next) (.int .i64 h.proposer))) (hb1'.ext h5.2.1) ?_
  refine mv.mk ?_
  refine head.t3 (by assumption) (fun _ h => h) ?_
  refine head.t4 (by assumption) (by assumption) (fun _ h => h) ?_
  refine head.t5 (by assumption) (by assumption) (by assumption) (fun _ h => h) ?_
  refine head.t6 (by assumption) (by assumption) (by assumption) (by assumption) (fun _ h => h) ?_
  refine head.t7 (by assumption) (by assumption) (by assumption) (by assumption) (by assumption) (fun _ h => h) ?_
  refine (isthmusref02_Hash h5.1 hok.last (by simp only [encI, encB, List.length_append]; omega)).mono fun r w6 h6 => ?_
  have h6 := NewB.then h5 h6.b
  refine ⟨hb1'.ext h6.2.1, ?_⟩
  refine (isthmusref02_Hash h6.1 hok.app (by simp only [encI, encB, List.length_append]; omega)).mono fun r w7 h7 => ?_
  have h7 := NewB.then h6 h7.b
  refine ⟨hb1'.ext h7.2.1, ?_⟩
  refine (isthmusref02_Hash h7.1 hok.txs (by simp only [encI, encB, List.length_append]; omega)).mono fun r w8 h8 => ?_
  have h8 := NewB.then h7 h8.b
  refine ⟨hb1'.ext h8.2.1, ?_⟩
  refine (isthmusref02_Hash h8.1 hok.validators (by simp only [encI, encB, List.length_append]; omega)).mono fun r w9 h9 => ?_
  have h9 := NewB.then h8 h9.b
  refine ⟨hb1'.ext h9.2.1, ?_⟩
  refine (isthmusref02_Hash h9.1 hok.next (by simp only [encI, encB, List.length_append]; omega)).mono fun r w10 h10 => ?_
  have h10 := NewB.then h9 h10.b
  refine ⟨hb1'.ext h10.2.1, ?_⟩
  refine mv.mk (mv.mk ?_)
  refine head.g8 (by assumption) (by assumption) (by assumption) (by assumption) (by assumption) (hb1'.ext h10.2.1) ?_
  refine (isthmusref02_Int h10.1 hok.proposer (by simp only [encI, encB, List.length_append]; omega)).mono fun r w11 h11 => ?_
  have h11 := NewB.then h10 h11.b
  refine mv.mk ?_
  have := NewB.after hu1 h11
  simpa only [encI, List.append_assoc] using this
theorem isthmusref11_Block {B : Nat} {w : World} {b : Value} {l : Bytes} {cs : List Value} {x : Block} (hb : Sl w b l.length 1 (u8s l)) (hv : BlokIs B w cs x) (hl : l.length + (encBlock x).length + 10 ≤ 2147483648) (hn : x.txs.length ≤ 2147483648) (hn2 : x.last.votes.length ≤ 2147483648) :
    C Tryz.prog N.isthmusref11_Block #[b, .agg cs.toArray] w fun r w' => NewB w r w' (l ++ encBlock x) := by
  obtain ⟨hc, sv, cc, rfl, hh, hs, hcc⟩ := hv
  obtain ⟨A, cap, rfl⟩ := hs.len
  refine C.isthmusref11_Block ?_
  unfold F.isthmusref11_Block
  refine st_box rfl fun g2 w1 hb1 hu0 hg2 => ?_
  have hu1 : Ext w w1.drew := hu0.drew
  have hb1' : Blk w1.drew g2 _ _ := hb1.ext upd_drew
  have k0 := hh.len
  have k2 := hcc.len
  have hs1 := TxsIs.keep hs hu1 (fun _ h => h.elim)
  have hcc1 := hcc.keep hu1 (fun _ h => h.elim)
  simp only [encBlock, encL, List.length_append] at hl
  simp only [encBlock, encL]
  have hp := encU_len10 (n := x.txs.length) (by omega)
  have hp1 := encU_pos x.txs.length
  refine mv.mk ?_
  refine dr_by (fun w' => Blk w' g2 T.api_Block (blokC hc (.slice A x.txs.length cap) cc)) (hb1') ?_
  refine mv.mk ?_
  refine blok.t0 k0 (fun _ h => h) ?_
  refine blok.t1 k0 (fun _ h => h) ?_
  refine tk_of (.int .i64 x.txs.length) (fun w _ => by simp [go_sem]) ?_
  refine tk_of (.int .u64 (x.txs.length : Nat)) (fun w _ => by simp [go_sem, u64_wrap]; omega) ?_
  refine (isthmusref11_Header (hb.ext hu1) hh (by omega)).mono fun r w2 h2 => ?_
  refine ⟨hb1'.ext h2.2.1, ?_⟩
  refine (isthmusref02_Uint h2.1 (n := x.txs.length) (by omega) (by simp only [List.length_append]; omega)).mono fun r w3 h3 => ?_
  have h3 := NewB.then h2 h3.b
  refine ⟨hb1'.ext h3.2.1, ?_⟩
  refine mv.mk (mv.mk ?_)
  refine lp_by (fun vs w' => ∃ (r : Value) (i : Nat), vs = [r, .int .i64 i] ∧ i ≤ x.txs.length ∧ NewB w1.drew r w' (l ++ encHeader x.header ++ encU x.txs.length ++ ((x.txs.take i).map encB).flatten)) (fun vs _ => match vs with | [_, .int _ m] => x.txs.length - m.toNat | _ => 0) ⟨_, 0, rfl, Nat.zero_le _, by simpa using h3⟩ ?_
  rintro y w6 ⟨r, i, hx, hi, h6⟩
  simp only [List.cons.injEq, and_true] at hx
  rw [hx.1, hx.2]
  refine mv.mk ?_
  refine blok.g1 k0 (hb1'.ext h6.2.1) ?_
  repeat (first
    | (refine st1 fun k' hk => ?_; simp [go_sem, thenR_ok, bin]; refine hk _ _ ?_; clear hk k')
    | (refine mv.mk ?_))
  refine br_split (fun hb => ?_) (fun hb => ?_)
  · have hi' : i < x.txs.length := by simpa using hb
    have hs6 := TxsIs.keep hs1 h6.2.1 fun _ h => h.elim
    have hfl := encL_take encB hi'
    have hbl : (encB x.txs[i]).length = (encU (x.txs[i]).length).length + (x.txs[i]).length := by simp only [encB, List.length_append]
    refine mv.mk ?_
    refine blok.g1 k0 (hb1'.ext h6.2.1) (mv.mk ?_)
    refine st_idx hs6 tTxs i rfl hi' fun g3 o3 y hr hyl hyv hg3 => ?_
    obtain ⟨y, rfl, hy⟩ := hyv
    refine load_range1 (by kernel_rfl) hr ?_
    refine (isthmusref02_Bytes h6.1 hy.1 (by simp only [List.length_append]; omega)).mono fun r w8 h8 => ?_
    have h8 := NewB.then h6 h8.b
    repeat (first
      | (refine st1 fun k' hk => ?_; simp [go_sem, thenR_ok, bin]; refine hk _ _ ?_; clear hk k')
      | (refine mv.mk ?_))
    refine ⟨⟨_, i + 1, by rw [i64_wrap (by omega) (by omega)]; rfl, hi', ?_⟩, ?_⟩
    · rw [flat_take_succ encB hi', ← List.append_assoc]; exact h8
    · rw [i64_wrap (by omega) (by omega)]; simp; omega
  · have hi' : i = x.txs.length := by have : ¬ i < x.txs.length := by simpa using hb
                                      omega
    subst hi'
    rw [List.take_length] at h6
    refine mv.mk ?_
    refine blok.g2 k0 k2 (hb1'.ext h6.2.1) ?_
    refine (isthmusref11_Commit h6.1 (hcc1.keep h6.2.1 fun _ h => h.elim) (by simp only [List.length_append]; omega) hn2).mono fun r w8 h8 => mv.mk ?_
    have := NewB.after hu1 (NewB.then h6 h8)
    simpa only [List.append_assoc] using this
theorem isthmusref11_validator {w : World} {b : Value} {l : Bytes} {cs : List Value} {v : Validator} (hb : Sl w b l.length 1 (u8s l)) (hv : ValiIs cs v) (hl : l.length + (encValidator v).length + 10 ≤ 2147483648) :
    C Tryz.prog N.isthmusref11_validator #[b, .agg cs.toArray] w fun r w' => NewB w r w' (l ++ encValidator v) := by
  obtain ⟨rfl, hok⟩ := hv
  refine C.isthmusref11_validator ?_
  unfold F.isthmusref11_validator
  refine st_box rfl fun g2 w1 hb1 hu0 hg2 => ?_
  have hu1 : Ext w w1.drew := hu0.drew
  have hb1' : Blk w1.drew g2 _ _ := hb1.ext upd_drew
  have hblk := u8s_len hok.key
  have hbl := hok.key
  simp only [encValidator, encI, encB, List.length_append] at hl
  simp only [encValidator]
  refine mv.mk ?_
  refine dr_by (fun w' => Blk w' g2 T.api_Validator (valiC (str v.name) (u8s v.key) (.int .i64 v.power))) (hb1') ?_
  refine mv.mk ?_
  refine vali.t0 (fun _ h => h) ?_
  refine vali.t1 hblk (fun _ h => h) ?_
  refine vali.t2 hblk (fun _ h => h) ?_
  refine (isthmusref02_Text (hb.ext hu1) (by omega)).mono fun r w2 h2 => ?_
  have h2 := NewO.b h2
  refine ⟨hb1'.ext h2.2.1, ?_⟩
  refine (isthmusref02_Hash h2.1 hok.key (by simp only [encI, encB, List.length_append]; omega)).mono fun r w3 h3 => ?_
  have h3 := NewB.then h2 h3.b
  refine ⟨hb1'.ext h3.2.1, ?_⟩
  refine (isthmusref02_Int h3.1 hok.power (by simp only [encI, encB, List.length_append]; omega)).mono fun r w4 h4 => ?_
  have h4 := NewB.then h3 h4.b
  refine ⟨hb1'.ext h4.2.1, ?_⟩
  refine mv.mk ?_
  have := NewB.after hu1 h4
  simpa only [List.append_assoc] using this
theorem isthmusref11_VoteBytes {B : Nat} {w : World} {cs : List Value} {chain : Bytes} {v : Vote} (hv : VoteIs B w cs v) (hl : (encVoteBytes chain v).length + 10 ≤ 2147483648) :
    C Tryz.prog N.isthmusref11_VoteBytes #[str chain, .agg cs.toArray] w fun r w' => NewB w r w' (encVoteBytes chain v) := by
  obtain ⟨sv, rfl, hok, hs⟩ := hv
  refine C.isthmusref11_VoteBytes ?_
  unfold F.isthmusref11_VoteBytes
  refine st_box rfl fun g2 w1 hb1 hu0 hg2 => ?_
  have hblk := u8s_len hok.block
  have hbl := hok.block
  simp only [encVoteBytes, encI, encB, List.length_append] at hl
  refine mv.mk ?_
  rw [show (Value.string ⟨#[118, 111, 116, 101]⟩) = str voteTag from rfl]
  refine (isthmusref02_Text (l := []) (Sl.nil 1) (by simp only [List.length_append, List.length_nil]; omega)).mono fun r w2 h2 => mv.mk ?_
  have h2 := NewO.b h2
  refine (isthmusref02_Text h2.1 (by simp only [encB, List.length_append, List.length_nil]; omega)).mono fun r w3 h3 => mv.mk ?_
  have h3 := (NewB.then h2 h3.b).drew
  refine dr_by (fun w' => Blk w' g2 T.api_Vote (voteC (.int .i64 v.kind) (.int .i64 v.height) (.int .i64 v.round) (u8s v.block) (.int .i64 v.validator) sv)) (hb1.ext h3.2.1) ?_
  refine mv.mk ?_
  refine vote.t0 (fun _ h => h) ?_
  refine vote.t1 (fun _ h => h) ?_
  refine vote.t2 (fun _ h => h) ?_
  refine vote.t3 hblk (fun _ h => h) ?_
  refine (isthmusref02_Int h3.1 hok.kind (by simp only [encB, encI, List.length_append, List.length_nil]; omega)).mono fun r w4 h4 => ?_
  have h4 := NewB.then h3 h4.b
  refine ⟨hb1.ext h4.2.1, ?_⟩
  refine (isthmusref02_Int h4.1 hok.height (by simp only [encB, encI, List.length_append, List.length_nil]; omega)).mono fun r w5 h5 => ?_
  have h5 := NewB.then h4 h5.b
  refine ⟨hb1.ext h5.2.1, ?_⟩
  refine (isthmusref02_Int h5.1 hok.round (by simp only [encB, encI, List.length_append, List.length_nil]; omega)).mono fun r w6 h6 => ?_
  have h6 := NewB.then h5 h6.b
  refine ⟨hb1.ext h6.2.1, ?_⟩
  refine (isthmusref02_Hash h6.1 hok.block (by simp only [encB, encI, List.length_append, List.length_nil]; omega)).mono fun r w7 h7 => ?_
  have h7 := NewB.then h6 h7.b
  refine ⟨hb1.ext h7.2.1, ?_⟩
  refine mv.mk ?_
  have := NewB.after hu0 h7
  simpa only [encVoteBytes, List.append_assoc, List.nil_append] using this
theorem isthmusref11_Set {B : Nat} {w : World} {sv : Value} {vs : List Validator} (hs : ListIs ValiIs B w sv 34 vs) (hl : (encSet vs).length + 10 ≤ 2147483648) (hn : vs.length ≤ 2147483648) :
    C Tryz.prog N.isthmusref11_Set #[sv] w fun r w' => NewB w r w' (encSet vs) := by
  obtain ⟨A, cap, rfl⟩ := hs.len
  refine C.isthmusref11_Set ?_
  unfold F.isthmusref11_Set
  simp only [encSet, encL, List.length_append] at hl
  simp only [encSet, encL]
  have := encU_len10 (n := vs.length) (by omega)
  have := encU_pos vs.length
  repeat (first
    | (refine st1 fun k' hk => ?_; simp [go_sem, thenR_ok, bin]; refine hk _ _ ?_; clear hk k')
    | (refine mv.mk ?_))
  rw [u64_wrap, show ((vs.length : Nat) : Int) % 18446744073709551616 = ((vs.length : Nat) : Int) by omega]
  refine (isthmusref02_Uint (l := []) (Sl.nil 1) (n := vs.length) (by omega) (by simp)).mono fun r w3 h3 => mv.mk (mv.mk ?_)
  have h3 := NewO.b h3
  refine lp_by (fun us w' => ∃ (r : Value) (i : Nat), us = [r, .int .i64 i] ∧ i ≤ vs.length ∧ NewB w r w' (encU vs.length ++ ((vs.take i).map encValidator).flatten)) (fun us _ => match us with | [_, .int _ m] => vs.length - m.toNat | _ => 0) ⟨_, 0, rfl, Nat.zero_le _, by simpa using h3⟩ ?_
  rintro x w6 ⟨r, i, hx, hi, h6⟩
  simp only [List.cons.injEq, and_true] at hx
  rw [hx.1, hx.2]
  repeat (first
    | (refine st1 fun k' hk => ?_; simp [go_sem, thenR_ok, bin]; refine hk _ _ ?_; clear hk k')
    | (refine mv.mk ?_))
  refine br_split (fun hb => ?_) (fun hb => ?_)
  · have hi' : i < vs.length := by simpa using hb
    have hs6 := ValsIs.keep hs h6.2.1 fun _ h => h.elim
    have hfl := encL_take encValidator hi'
    refine mv.mk (mv.mk (mv.mk ?_))
    refine st_idx hs6 tVals i rfl hi' fun g3 o3 y hr hyl hyv hg3 => ?_
    refine st_of (load_agg (by kernel_rfl) hr hyl) ?_
    refine (isthmusref11_validator h6.1 hyv (by simp only [List.length_append]; omega)).mono fun r w8 h8 => ?_
    have h8 := NewB.then h6 h8
    repeat (first
      | (refine st1 fun k' hk => ?_; simp [go_sem, thenR_ok, bin]; refine hk _ _ ?_; clear hk k')
      | (refine mv.mk ?_))
    refine ⟨⟨_, i + 1, by rw [i64_wrap (by omega) (by omega)]; rfl, hi', ?_⟩, ?_⟩
    · rw [flat_take_succ encValidator hi', ← List.append_assoc]; exact h8
    · rw [i64_wrap (by omega) (by omega)]; simp; omega
  · have hi' : i = vs.length := by have : ¬ i < vs.length := by simpa using hb
                                   omega
    subst hi'
    rw [List.take_length] at h6
    exact mv.mk (mv.mk h6)
end Go.Proofs.YtlfelmikcdmkhaaGreatDoor
