/- types: things as bytes. -/
import Derived.Test.YtlfelmikcdmkhaaGreatDoorK7
import Derived.Test.YtlfelmikcdmkhaaGreatDoorPW
import Derived.Test.YtlfelmikcdmkhaaGreatDoorST
set_option linter.unusedVariables false
set_option linter.unusedSimpArgs false
set_option linter.unusedSectionVars false
namespace Go.Proofs.YtlfelmikcdmkhaaGreatDoor
open Go Go.Isk Go.RowKit
theorem encL_take {α : Type} (f : α → Bytes) {l : List α} {i : Nat} (h : i < l.length) : ((l.take i).map f).flatten.length + (f l[i]).length ≤ (l.map f).flatten.length := by
  have := flat_take_len f l (i + 1)
  rw [flat_take_succ f h, List.length_append] at this
  exact this
/-- the cells of a vote -/
def VoteIs (B : Nat) (w : World) (cs : List Value) (v : Vote) : Prop :=
  ∃ sv, cs = voteC (.int .i64 v.kind) (.int .i64 v.height) (.int .i64 v.round) (u8s v.block) (.int .i64 v.validator) sv ∧ v.ok ∧ SlB B w sv v.sign.length 1 (u8s v.sign)
theorem u8s_len {l : Bytes} {n : Nat} (h : l.length = n) : (u8s l).length = n := by rw [u8s_length, h]
theorem VoteIs.keep {B : Nat} {w w' : World} {cs : List Value} {v : Vote} {S : Nat → Prop} (h : VoteIs B w cs v) (hu : Upd S w w') (hs : ∀ k, S k → B ≤ k) : VoteIs B w' cs v := by
  obtain ⟨sv, rfl, hok, h⟩ := h
  exact ⟨sv, rfl, hok, h.keep hu hs⟩
theorem VoteIs.len {B : Nat} {w : World} {cs : List Value} {v : Vote} (h : VoteIs B w cs v) : cs.length = 37 := by
  obtain ⟨sv, rfl, hok, h⟩ := h
  exact voteC_len (u8s_len hok.block)
theorem VoteIs.one {B : Nat} {w : World} {cs : List Value} {v : Vote} (h : VoteIs B w cs v) : ∀ u ∈ cs, u.oneCell' = true := by
  obtain ⟨sv, rfl, hok, h⟩ := h
  have h1 := u8s_one v.block
  have h2 := (sl_cells h.1).2
  intro u hu
  simp only [voteC, List.mem_cons, List.mem_append, List.not_mem_nil, or_false] at hu
  rcases hu with rfl | rfl | rfl | hu | rfl | rfl
  · rfl
  · rfl
  · rfl
  · exact h1 u hu
  · rfl
  · exact h2
theorem Ws.callR {R : Value → Prop} {f : Nat} {args : Array Value} {B g : Nat} {w0 w : World} {v0 : Value} {l l' : List UInt8} (h : Ws B w0 v0 g w l)
    (hc : ∀ v, Wr B w g v l → C Tryz.prog f args w fun r w' => R r ∧ Ws B w v g w' l') : C Tryz.prog f args w fun r w' => R r ∧ Ws B w0 v0 g w' l' := by
  obtain ⟨v, hW, hv⟩ := h.now
  exact (hc v hW).mono fun r w' ⟨e, h'⟩ => ⟨e, h.trans hv h'⟩
/-- a box made beside the writer stays -/
theorem Ws.box {B g g2 : Nat} {T : TypeId} {cs : List Value} {w w1 w' : World} {v : Value} {l l' : List UInt8} (hW : Wr B w g v l) (hg2 : w.heap.size ≤ g2) (hb : Blk w1 g2 T cs) (h : Ws B w1 v g w' l') : Blk w' g2 T cs :=
  hb.keep h.upd (by
    rintro (e | e)
    · have := hW.blk.lt; omega
    · have := own_lt hW.own e; omega)
theorem types_putVote' {B g : Nat} {l : Bytes} {w : World} {v0 : Value} {cs : List Value} {v : Vote} (hv : VoteIs B w cs v) (hW : Wr B w g v0 l) (hl : l.length + (encVote v).length + 10 ≤ 2147483648) :
    C Tryz.prog N.types_putVote #[.pointer (some ⟨g, 0, none⟩), .agg cs.toArray] w fun r w' => r = .tuple #[] ∧ Ws B w v0 g w' (l ++ encVote v) := by
  obtain ⟨sv, rfl, hok, hs⟩ := hv
  refine C.types_putVote ?_
  unfold F.types_putVote
  refine st_box rfl fun g2 w1 hb1 hu1 hg2 => ?_
  have hu1' : Ext w w1.drew := hu1.drew
  have hW1 := hW.ext hu1'
  have hbx : ∀ {w' : World} {l' : Bytes}, Ws B w1.drew v0 g w' l' → Blk w' g2 _ _ := fun h => Ws.box hW hg2 (hb1.ext upd_drew) h
  have hs1 := hs.ext hu1'
  have hblk := u8s_len hok.block
  have hbl := hok.block
  simp only [encVote, encI, encB, List.length_append] at hl
  refine dr_by (fun w' => Blk w' g2 T.api_Vote (voteC (.int .i64 v.kind) (.int .i64 v.height) (.int .i64 v.round) (u8s v.block) (.int .i64 v.validator) sv)) (hb1.ext upd_drew) ?_
  refine mv.mk ?_
  refine vote.t0 (fun _ h => h) ?_
  refine vote.t1 (fun _ h => h) ?_
  refine vote.t2 (fun _ h => h) ?_
  refine vote.t3 hblk (fun _ h => h) ?_
  refine vote.t4 hblk (fun _ h => h) ?_
  refine vote.t5 hblk (fun _ h => h) ?_
  refine (pack_Writer_Int hok.kind.1 hok.kind.2 hW1.start (by omega)).mono fun r w2 ⟨e, h2⟩ => ⟨hbx h2, ?_⟩; subst e
  refine (pack_Writer_Int hok.height.1 hok.height.2 h2 (by simp only [List.length_append]; omega)).mono fun r w3 ⟨e, h3⟩ => ⟨hbx h3, ?_⟩; subst e
  refine (pack_Writer_Int hok.round.1 hok.round.2 h3 (by simp only [List.length_append]; omega)).mono fun r w4 ⟨e, h4⟩ => ⟨hbx h4, ?_⟩; subst e
  refine (pack_Writer_Hash hok.block h4 (by simp only [List.length_append]; omega)).mono fun r w5 ⟨e, h5⟩ => ⟨hbx h5, ?_⟩; subst e
  refine (pack_Writer_Int hok.validator.1 hok.validator.2 h5 (by simp only [List.length_append]; omega)).mono fun r w6 ⟨e, h6⟩ => ⟨hbx h6, ?_⟩; subst e
  refine (pack_Writer_Bytes (hs1.keep h6.low fun _ h => h) h6 (by simp only [List.length_append]; omega)).mono fun r w7 ⟨e, h7⟩ => ⟨rfl, ?_⟩
  have := Ws.after hW hu1' h7
  simpa only [encVote, encI, encB, List.append_assoc] using this
theorem types_putVote {B g : Nat} {l : Bytes} {w0 w : World} {v0 : Value} {cs : List Value} {v : Vote} (hv : VoteIs B w cs v) (h : Ws B w0 v0 g w l) (hl : l.length + (encVote v).length + 10 ≤ 2147483648) :
    C Tryz.prog N.types_putVote #[.pointer (some ⟨g, 0, none⟩), .agg cs.toArray] w fun r w' => r = .tuple #[] ∧ Ws B w0 v0 g w' (l ++ encVote v) := h.callR fun _ hW => types_putVote' hv hW hl
theorem Ws.ext {B g : Nat} {w0 w w1 : World} {v0 : Value} {l : Bytes} (h : Ws B w0 v0 g w l) (hu : Ext w w1) : Ws B w0 v0 g w1 l := by
  obtain ⟨v, hW, hv⟩ := h.now
  exact ⟨⟨v, hW.ext hu, hv⟩, h.upd.ext hu, h.lt, h.base⟩
theorem tVotes : slT Tryz.prog T.sl_api_Vote T.api_Vote 37 88 = true := by kernel_rfl
theorem tVals : slT Tryz.prog T.sl_api_Validator T.api_Validator 34 56 = true := by kernel_rfl
theorem tTxs : slT Tryz.prog T.sl_sl_uint8 T.sl_uint8 1 24 = true := by kernel_rfl
theorem tHashes : slT Tryz.prog T.sl_api_Hash T.api_Hash 32 32 = true := by kernel_rfl
/-- the cells of a commit -/
def CommIs (B : Nat) (w : World) (cs : List Value) (c : Commit) : Prop :=
  ∃ sv, cs = commC (.int .i64 c.height) (.int .i64 c.round) (u8s c.block) sv ∧ c.ok ∧ ListIs (VoteIs B w) B w sv 37 c.votes
theorem VotesIs.keep {B : Nat} {w w' : World} {sv : Value} {l : List Vote} {S : Nat → Prop} (h : ListIs (VoteIs B w) B w sv 37 l) (hu : Upd S w w') (hs : ∀ k, S k → B ≤ k) : ListIs (VoteIs B w') B w' sv 37 l :=
  ListIs.keep h hu hs fun _ _ h => h.keep hu hs
theorem CommIs.keep {B : Nat} {w w' : World} {cs : List Value} {c : Commit} {S : Nat → Prop} (h : CommIs B w cs c) (hu : Upd S w w') (hs : ∀ k, S k → B ≤ k) : CommIs B w' cs c := by
  obtain ⟨sv, rfl, hok, h⟩ := h
  exact ⟨sv, rfl, hok, VotesIs.keep h hu hs⟩
theorem CommIs.len {B : Nat} {w : World} {cs : List Value} {c : Commit} (h : CommIs B w cs c) : cs.length = 35 := by
  obtain ⟨sv, rfl, hok, h⟩ := h
  exact commC_len (u8s_len hok.block)
theorem listIs_one {B sz : Nat} {w : World} {sv : Value} {α : Type} {R : List Value → α → Prop} {xs : List α} (h : ListIs R B w sv sz xs) : sv.cells = #[sv] ∧ sv.oneCell' = true := by
  obtain ⟨xss, h0, h1, h2, h3⟩ := h
  exact sl_cells h3.1
theorem CommIs.one {B : Nat} {w : World} {cs : List Value} {c : Commit} (h : CommIs B w cs c) : ∀ u ∈ cs, u.oneCell' = true := by
  obtain ⟨sv, rfl, hok, h⟩ := h
  have h1 := u8s_one c.block
  have h2 := (listIs_one h).2
  intro u hu
  simp only [commC, List.mem_cons, List.mem_append, List.not_mem_nil, or_false] at hu
  rcases hu with rfl | rfl | hu | rfl
  · rfl
  · rfl
  · exact h1 u hu
  · exact h2
theorem types_putCommit' {B g : Nat} {l : Bytes} {w : World} {v0 : Value} {cs : List Value} {c : Commit} (hv : CommIs B w cs c) (hW : Wr B w g v0 l) (hl : l.length + (encCommit c).length + 10 ≤ 2147483648) (hn : c.votes.length ≤ 2147483648) :
    C Tryz.prog N.types_putCommit #[.pointer (some ⟨g, 0, none⟩), .agg cs.toArray] w fun r w' => r = .tuple #[] ∧ Ws B w v0 g w' (l ++ encCommit c) := by
  obtain ⟨sv, rfl, hok, hs⟩ := hv
  obtain ⟨A, cap, rfl⟩ := hs.len
  refine C.types_putCommit ?_
  unfold F.types_putCommit
  refine st_box rfl fun g2 w1 hb1 hu1 hg2 => ?_
  have hu1' : Ext w w1.drew := hu1.drew
  have hW1 := hW.ext hu1'
  have hbx : ∀ {w' : World} {l' : Bytes}, Ws B w1.drew v0 g w' l' → Blk w' g2 _ _ := fun h => Ws.box hW hg2 (hb1.ext upd_drew) h
  have hs1 := VotesIs.keep hs hu1' (fun _ h => h.elim)
  have hblk := u8s_len hok.block
  have hbl := hok.block
  simp only [encCommit, encL, encI, encB, List.length_append] at hl
  refine dr_by (fun w' => Blk w' g2 T.api_Commit (commC (.int .i64 c.height) (.int .i64 c.round) (u8s c.block) (.slice A c.votes.length cap))) (hb1.ext upd_drew) ?_
  refine mv.mk ?_
  refine comm.t0 (fun _ h => h) ?_
  refine comm.t1 (fun _ h => h) ?_
  refine comm.t2 hblk (fun _ h => h) ?_
  refine comm.t3 hblk (fun _ h => h) ?_
  refine tk_of (.int .i64 c.votes.length) (fun w _ => by simp [go_sem]) ?_
  refine tk_of (.int .u64 (c.votes.length : Nat)) (fun w _ => by simp [go_sem, u64_wrap]; omega) ?_
  refine (pack_Writer_Int hok.height.1 hok.height.2 hW1.start (by omega)).mono fun r w2 ⟨e, h2⟩ => ⟨hbx h2, ?_⟩; subst e
  refine (pack_Writer_Int hok.round.1 hok.round.2 h2 (by simp only [List.length_append]; omega)).mono fun r w3 ⟨e, h3⟩ => ⟨hbx h3, ?_⟩; subst e
  refine (pack_Writer_Hash hok.block h3 (by simp only [List.length_append]; omega)).mono fun r w4 ⟨e, h4⟩ => ⟨hbx h4, ?_⟩; subst e
  refine (pack_Writer_Uint (n := c.votes.length) (by omega) h4 (by simp only [List.length_append]; omega)).mono fun r w5 ⟨e, h5⟩ => ?_; subst e
  refine comm.g3 hblk (hbx h5) ?_
  refine st1 fun k' hk => ?_; simp [go_sem, thenR_ok, bin]; refine hk _ _ ?_; clear hk k'
  refine mv.mk ?_
  refine lp_by (fun vs w' => ∃ i : Nat, vs = [.int .i64 i] ∧ i ≤ c.votes.length ∧ Ws B w1.drew v0 g w' (l ++ encU (zig c.height) ++ encU (zig c.round) ++ c.block ++ encU c.votes.length ++ ((c.votes.take i).map encVote).flatten)) (fun vs _ => match vs with | [.int _ m] => c.votes.length - m.toNat | _ => 0) ⟨0, rfl, Nat.zero_le _, by simpa using h5⟩ ?_
  rintro x w6 ⟨i, hx, hi, h6⟩
  simp only [List.cons.injEq, and_true] at hx
  rw [hx]
  refine st1 fun k' hk => ?_; simp [go_sem, thenR_ok, bin]; refine hk _ _ ?_; clear hk k'
  refine br_split (fun hb => ?_) (fun hb => ?_)
  · have hi' : i < c.votes.length := by simpa using hb
    have hs6 := VotesIs.keep hs1 h6.low fun _ h => h
    have hfl := encL_take encVote hi'
    refine st_idx hs6 tVotes i rfl hi' fun g3 o3 y hr hyl hyv hg3 => ?_
    refine st_of (load_agg (by kernel_rfl) hr hyl) ?_
    refine st_var (by kernel_rfl) hyl hyv.one fun g4 w7 hb7 hu7 hg4 => ?_
    refine mv.mk ?_
    refine load_blk (by kernel_rfl) hb7 hyl ?_
    have h7 := h6.ext hu7
    refine (types_putVote (hyv.keep hu7 fun _ h => h.elim) h7 (by simp only [List.length_append]; omega)).mono fun r w8 ⟨e, h8⟩ => ?_
    refine st1 fun k' hk => ?_; simp [go_sem, thenR_ok, bin]; refine hk _ _ ?_; clear hk k'
    refine mv.mk ⟨⟨i + 1, ?_, hi', ?_⟩, ?_⟩
    · simp only [List.cons.injEq, Value.int.injEq, true_and, and_true]
      rw [i64_wrap (by omega) (by omega)]; rfl
    · rw [flat_take_succ encVote hi', ← List.append_assoc]; exact h8
    · rw [i64_wrap (by omega) (by omega)]; simp; omega
  · have hi' : i = c.votes.length := by have : ¬ i < c.votes.length := by simpa using hb
                                        omega
    subst hi'
    refine ⟨rfl, ?_⟩
    rw [List.take_length] at h6
    have := Ws.after hW hu1' h6
    simpa only [encCommit, encL, encI, encB, List.append_assoc] using this
theorem types_putCommit {B g : Nat} {l : Bytes} {w0 w : World} {v0 : Value} {cs : List Value} {c : Commit} (hv : CommIs B w cs c) (h : Ws B w0 v0 g w l) (hl : l.length + (encCommit c).length + 10 ≤ 2147483648) (hn : c.votes.length ≤ 2147483648) :
    C Tryz.prog N.types_putCommit #[.pointer (some ⟨g, 0, none⟩), .agg cs.toArray] w fun r w' => r = .tuple #[] ∧ Ws B w0 v0 g w' (l ++ encCommit c) := h.callR fun _ hW => types_putCommit' hv hW hl hn
/-- the cells of a header -/
def HeadIs (cs : List Value) (h : Header) : Prop :=
  cs = headC (str h.chain) (.int .i64 h.height) (.int .i64 h.time) (u8s h.last) (u8s h.app) (u8s h.txs) (u8s h.validators) (u8s h.next) (.int .i64 h.proposer) ∧ h.ok
theorem HeadIs.len {cs : List Value} {h : Header} (hh : HeadIs cs h) : cs.length = 164 := by
  obtain ⟨rfl, hok⟩ := hh
  exact headC_len (u8s_len hok.last) (u8s_len hok.app) (u8s_len hok.txs) (u8s_len hok.validators) (u8s_len hok.next)
theorem HeadIs.one {cs : List Value} {h : Header} (hh : HeadIs cs h) : ∀ u ∈ cs, u.oneCell' = true := by
  obtain ⟨rfl, hok⟩ := hh
  intro u hu
  simp only [headC, List.mem_cons, List.mem_append, List.not_mem_nil, or_false] at hu
  rcases hu with rfl | rfl | rfl | hu | hu | hu | hu | hu | rfl
  · rfl
  · rfl
  · rfl
  · exact u8s_one _ u hu
  · exact u8s_one _ u hu
  · exact u8s_one _ u hu
  · exact u8s_one _ u hu
  · exact u8s_one _ u hu
  · rfl
theorem types_putHeader' {B g : Nat} {l : Bytes} {w : World} {v0 : Value} {cs : List Value} {h : Header} (hv : HeadIs cs h) (hW : Wr B w g v0 l) (hl : l.length + (encHeader h).length + 10 ≤ 2147483648) :
    C Tryz.prog N.types_putHeader #[.pointer (some ⟨g, 0, none⟩), .agg cs.toArray] w fun r w' => r = .tuple #[] ∧ Ws B w v0 g w' (l ++ encHeader h) := by
  obtain ⟨rfl, hok⟩ := hv
  refine C.types_putHeader ?_
  unfold F.types_putHeader
  refine st_box rfl fun g2 w1 hb1 hu1 hg2 => ?_
  have hu1' : Ext w w1.drew := hu1.drew
  have hW1 := hW.ext hu1'
  have hbx : ∀ {w' : World} {l' : Bytes}, Ws B w1.drew v0 g w' l' → Blk w' g2 _ _ := fun h => Ws.box hW hg2 (hb1.ext upd_drew) h
  have k3 := u8s_len hok.last
  have k4 := u8s_len hok.app
  have k5 := u8s_len hok.txs
  have k6 := u8s_len hok.validators
  have k7 := u8s_len hok.next
  have l3 := hok.last
  have l4 := hok.app
  have l5 := hok.txs
  have l6 := hok.validators
  have l7 := hok.next
  simp only [encHeader, encI, encB, List.length_append] at hl
  refine dr_by (fun w' => Blk w' g2 T.api_Header (headC (str h.chain) (.int .i64 h.height) (.int .i64 h.time) (u8s h.last) (u8s h.app) (u8s h.txs) (u8s h.validators) (u8s h.next) (.int .i64 h.proposer))) (hb1.ext upd_drew) ?_
  refine mv.mk ?_
  refine head.t0 (fun _ h => h) ?_
  refine head.t1 (fun _ h => h) ?_
  refine head.t2 (fun _ h => h) ?_
  refine head.t3 (by assumption) (fun _ h => h) ?_
  refine head.t4 (by assumption) (by assumption) (fun _ h => h) ?_
  refine head.t5 (by assumption) (by assumption) (by assumption) (fun _ h => h) ?_
  refine head.t6 (by assumption) (by assumption) (by assumption) (by assumption) (fun _ h => h) ?_
  refine head.t7 (by assumption) (by assumption) (by assumption) (by assumption) (by assumption) (fun _ h => h) ?_
  refine head.t8 (by assumption) (by assumption) (by assumption) (by assumption) (by assumption) (fun _ h => h) ?_
  refine (pack_Writer_Text hW1.start (by omega)).mono fun r w2 ⟨e, h2⟩ => ⟨hbx h2, ?_⟩; subst e
  refine (pack_Writer_Int hok.height.1 hok.height.2 h2 (by simp only [List.length_append]; omega)).mono fun r w3 ⟨e, h3⟩ => ⟨hbx h3, ?_⟩; subst e
  refine (pack_Writer_Int hok.time.1 hok.time.2 h3 (by simp only [List.length_append]; omega)).mono fun r w4 ⟨e, h4⟩ => ⟨hbx h4, ?_⟩; subst e
  refine (pack_Writer_Hash hok.last h4 (by simp only [List.length_append]; omega)).mono fun r w5 ⟨e, h5⟩ => ⟨hbx h5, ?_⟩; subst e
  refine (pack_Writer_Hash hok.app h5 (by simp only [List.length_append]; omega)).mono fun r w6 ⟨e, h6⟩ => ⟨hbx h6, ?_⟩; subst e
  refine (pack_Writer_Hash hok.txs h6 (by simp only [List.length_append]; omega)).mono fun r w7 ⟨e, h7⟩ => ⟨hbx h7, ?_⟩; subst e
  refine (pack_Writer_Hash hok.validators h7 (by simp only [List.length_append]; omega)).mono fun r w8 ⟨e, h8⟩ => ⟨hbx h8, ?_⟩; subst e
  refine (pack_Writer_Hash hok.next h8 (by simp only [List.length_append]; omega)).mono fun r w9 ⟨e, h9⟩ => ⟨hbx h9, ?_⟩; subst e
  refine (pack_Writer_Int hok.proposer.1 hok.proposer.2 h9 (by simp only [List.length_append]; omega)).mono fun r w10 ⟨e, h10⟩ => ⟨rfl, ?_⟩
  have := Ws.after hW hu1' h10
  simpa only [encHeader, encI, encB, List.append_assoc] using this
theorem types_putHeader {B g : Nat} {l : Bytes} {w0 w : World} {v0 : Value} {cs : List Value} {h : Header} (hv : HeadIs cs h) (hS : Ws B w0 v0 g w l) (hl : l.length + (encHeader h).length + 10 ≤ 2147483648) :
    C Tryz.prog N.types_putHeader #[.pointer (some ⟨g, 0, none⟩), .agg cs.toArray] w fun r w' => r = .tuple #[] ∧ Ws B w0 v0 g w' (l ++ encHeader h) := hS.callR fun _ hW => types_putHeader' hv hW hl
/-- the cell of some bytes -/
def ByteIs (B : Nat) (w : World) (cs : List Value) (t : Bytes) : Prop := ∃ x, cs = [x] ∧ SlB B w x t.length 1 (u8s t)
theorem ByteIs.keep {B : Nat} {w w' : World} {cs : List Value} {t : Bytes} {S : Nat → Prop} (h : ByteIs B w cs t) (hu : Upd S w w') (hs : ∀ k, S k → B ≤ k) : ByteIs B w' cs t := by
  obtain ⟨x, rfl, h⟩ := h
  exact ⟨x, rfl, h.keep hu hs⟩
theorem TxsIs.keep {B : Nat} {w w' : World} {sv : Value} {l : List Bytes} {S : Nat → Prop} (h : ListIs (ByteIs B w) B w sv 1 l) (hu : Upd S w w') (hs : ∀ k, S k → B ≤ k) : ListIs (ByteIs B w') B w' sv 1 l :=
  ListIs.keep h hu hs fun _ _ h => h.keep hu hs
/-- the cells of a block -/
def BlokIs (B : Nat) (w : World) (cs : List Value) (b : Block) : Prop :=
  ∃ hc sv cc, cs = blokC hc sv cc ∧ HeadIs hc b.header ∧ ListIs (ByteIs B w) B w sv 1 b.txs ∧ CommIs B w cc b.last
theorem BlokIs.keep {B : Nat} {w w' : World} {cs : List Value} {b : Block} {S : Nat → Prop} (h : BlokIs B w cs b) (hu : Upd S w w') (hs : ∀ k, S k → B ≤ k) : BlokIs B w' cs b := by
  obtain ⟨hc, sv, cc, rfl, h1, h2, h3⟩ := h
  exact ⟨hc, sv, cc, rfl, h1, TxsIs.keep h2 hu hs, h3.keep hu hs⟩
theorem load_range1 {T g o : Nat} {x : Value} {w : World} {k : Value → World → Prop} (ht : oneT Tryz.prog T = true) (hr : w.rangeAt g o [x]) (hk : k x w) : o1 Tryz.prog (Instr.loadAt T (.pointer (some ⟨g, o, none⟩))) w k :=
  st_of (load_one ht (by simpa using hr 0 x rfl)) hk
theorem types_putBlock' {B g : Nat} {l : Bytes} {w : World} {v0 : Value} {cs : List Value} {b : Block} (hv : BlokIs B w cs b) (hW : Wr B w g v0 l) (hl : l.length + (encBlock b).length + 10 ≤ 2147483648) (hn : b.txs.length ≤ 2147483648) (hn2 : b.last.votes.length ≤ 2147483648) :
    C Tryz.prog N.types_putBlock #[.pointer (some ⟨g, 0, none⟩), .agg cs.toArray] w fun r w' => r = .tuple #[] ∧ Ws B w v0 g w' (l ++ encBlock b) := by
  obtain ⟨hc, sv, cc, rfl, hh, hs, hcc⟩ := hv
  obtain ⟨A, cap, rfl⟩ := hs.len
  refine C.types_putBlock ?_
  unfold F.types_putBlock
  refine st_box rfl fun g2 w1 hb1 hu1 hg2 => ?_
  have hW1 := hW.ext hu1
  have hbx : ∀ {w' : World} {l' : Bytes}, Ws B w1 v0 g w' l' → Blk w' g2 _ _ := fun h => Ws.box hW hg2 hb1 h
  have hs1 := TxsIs.keep hs hu1 (fun _ h => h.elim)
  have hcc1 := hcc.keep hu1 (fun _ h => h.elim)
  have k0 := hh.len
  have k2 := hcc.len
  simp only [encBlock, encL, List.length_append] at hl
  refine mv.mk ?_
  refine blok.g0 k0 hb1 ?_
  refine (types_putHeader hh hW1.start (by omega)).mono fun r w2 ⟨_, h2⟩ => ?_
  refine mv.mk ?_
  refine blok.g1 k0 (hbx h2) ?_
  refine st1 fun k' hk => ?_; simp [go_sem, thenR_ok, bin]; refine hk _ _ ?_; clear hk k'
  refine st1 fun k' hk => ?_; simp [go_sem, thenR_ok, bin]; refine hk _ _ ?_; clear hk k'
  rw [u64_wrap, show ((b.txs.length : Nat) : Int) % 18446744073709551616 = ((b.txs.length : Nat) : Int) by omega]
  refine (pack_Writer_Uint (n := b.txs.length) (by omega) h2 (by have := encU_len10 (n := b.txs.length) (by omega); simp only [List.length_append]; omega)).mono fun r w3 ⟨_, h3⟩ => ?_
  refine blok.g1 k0 (hbx h3) ?_
  refine st1 fun k' hk => ?_; simp [go_sem, thenR_ok, bin]; refine hk _ _ ?_; clear hk k'
  refine mv.mk ?_
  refine lp_by (fun vs w' => ∃ (u : Value) (i : Nat), vs = [u, .int .i64 i] ∧ i ≤ b.txs.length ∧ Ws B w1 v0 g w' (l ++ encHeader b.header ++ encU b.txs.length ++ ((b.txs.take i).map encB).flatten)) (fun vs _ => match vs with | [_, .int _ m] => b.txs.length - m.toNat | _ => 0) ⟨_, 0, rfl, Nat.zero_le _, by simpa using h3⟩ ?_
  rintro x w6 ⟨u, i, hx, hi, h6⟩
  simp only [List.cons.injEq, and_true] at hx
  rw [hx.1, hx.2]
  refine st1 fun k' hk => ?_; simp [go_sem, thenR_ok, bin]; refine hk _ _ ?_; clear hk k'
  refine br_split (fun hb => ?_) (fun hb => ?_)
  · have hi' : i < b.txs.length := by simpa using hb
    have hs6 := TxsIs.keep hs1 h6.low fun _ h => h
    have hfl := encL_take encB hi'
    refine st_idx hs6 tTxs i rfl hi' fun g3 o3 y hr hyl hyv hg3 => ?_
    obtain ⟨y, rfl, hy⟩ := hyv
    refine load_range1 (by kernel_rfl) hr ?_
    refine mv.mk (mv.mk (mv.mk ?_))
    simp only [encB, List.length_append] at hl hfl
    refine (pack_Writer_Bytes hy h6 (by simp only [encB, List.length_append]; omega)).mono fun r w8 ⟨e, h8⟩ => ?_
    refine st1 fun k' hk => ?_; simp [go_sem, thenR_ok, bin]; refine hk _ _ ?_; clear hk k'
    refine mv.mk ⟨⟨y, i + 1, ?_, hi', ?_⟩, ?_⟩
    · simp only [List.cons.injEq, Value.int.injEq, true_and, and_true]
      rw [i64_wrap (by omega) (by omega)]; rfl
    · rw [flat_take_succ encB hi', ← List.append_assoc]; exact h8
    · rw [i64_wrap (by omega) (by omega)]; simp; omega
  · have hi' : i = b.txs.length := by have : ¬ i < b.txs.length := by simpa using hb
                                      omega
    subst hi'
    rw [List.take_length] at h6
    refine mv.mk ?_
    refine blok.g2 k0 k2 (hbx h6) ?_
    refine (types_putCommit (hcc1.keep h6.low fun _ h => h) h6 (by simp only [List.length_append]; omega) hn2).mono fun r w8 ⟨e, h8⟩ => ⟨rfl, ?_⟩
    have := Ws.after hW hu1 h8
    simpa only [encBlock, encL, List.append_assoc] using this
theorem types_putBlock {B g : Nat} {l : Bytes} {w0 w : World} {v0 : Value} {cs : List Value} {b : Block} (hv : BlokIs B w cs b) (h : Ws B w0 v0 g w l) (hl : l.length + (encBlock b).length + 10 ≤ 2147483648) (hn : b.txs.length ≤ 2147483648) (hn2 : b.last.votes.length ≤ 2147483648) :
    C Tryz.prog N.types_putBlock #[.pointer (some ⟨g, 0, none⟩), .agg cs.toArray] w fun r w' => r = .tuple #[] ∧ Ws B w0 v0 g w' (l ++ encBlock b) := h.callR fun _ hW => types_putBlock' hv hW hl hn hn2
/-- the cells of a validator -/
def ValiIs (cs : List Value) (v : Validator) : Prop := cs = valiC (str v.name) (u8s v.key) (.int .i64 v.power) ∧ v.ok
theorem ValiIs.len {cs : List Value} {v : Validator} (h : ValiIs cs v) : cs.length = 34 := by
  obtain ⟨rfl, hok⟩ := h
  exact valiC_len (u8s_len hok.key)
theorem ValiIs.one {cs : List Value} {v : Validator} (h : ValiIs cs v) : ∀ u ∈ cs, u.oneCell' = true := by
  obtain ⟨rfl, hok⟩ := h
  intro u hu
  simp only [valiC, List.mem_cons, List.mem_append, List.not_mem_nil, or_false] at hu
  rcases hu with rfl | hu | rfl
  · rfl
  · exact u8s_one _ u hu
  · rfl
theorem ValsIs.keep {B : Nat} {w w' : World} {sv : Value} {l : List Validator} {S : Nat → Prop} (h : ListIs ValiIs B w sv 34 l) (hu : Upd S w w') (hs : ∀ k, S k → B ≤ k) : ListIs ValiIs B w' sv 34 l :=
  ListIs.keep h hu hs fun _ _ h => h
end Go.Proofs.YtlfelmikcdmkhaaGreatDoor
