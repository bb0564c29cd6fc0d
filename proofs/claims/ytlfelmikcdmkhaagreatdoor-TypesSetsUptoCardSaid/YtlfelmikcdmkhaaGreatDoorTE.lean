/- types: things as bytes. -/
import Derived.Test.YtlfelmikcdmkhaaGreatDoorK7
import Derived.Test.YtlfelmikcdmkhaaGreatDoorPW
import Derived.Test.YtlfelmikcdmkhaaGreatDoorST
set_option linter.unusedVariables false
set_option linter.unusedSimpArgs false
set_option linter.unusedSectionVars false
namespace Go.Proofs.YtlfelmikcdmkhaaGreatDoor
open Go Go.Isk Go.RowKit
theorem encL_take {α : Type} (f : α → Bytes) {l : List α} {i : Nat} (h : i < l.length) : ((l.take i).map f).flatten.length + (f l[i]).length ≤ (l.map f).flatten.length := by
  have := flat_take_len f l (i + 1)
  rw [flat_take_succ f h, List.length_append] at this
  exact this
/-- the cells of a vote -/
def VoteIs (B : Nat) (w : World) (cs : List Value) (v : Vote) : Prop :=
  ∃ sv, cs = voteC (.int .i64 v.kind) (.int .i64 v.height) (.int .i64 v.round) (u8s v.block) (.int .i64 v.validator) sv ∧ v.ok ∧ SlB B w sv v.sign.length 1 (u8s v.sign)
theorem u8s_len {l : Bytes} {n : Nat} (h : l.length = n) : (u8s l).length = n := by rw [u8s_length, h]
theorem VoteIs.keep {B : Nat} {w w' : World} {cs : List Value} {v : Vote} {S : Nat → Prop} (h : VoteIs B w cs v) (hu : Upd S w w') (hs : ∀ k, S k → B ≤ k) : VoteIs B w' cs v := by
  obtain ⟨sv, rfl, hok, h⟩ := h
  exact ⟨sv, rfl, hok, h.keep hu hs⟩
theorem VoteIs.len {B : Nat} {w : World} {cs : List Value} {v : Vote} (h : VoteIs B w cs v) : cs.length = 37 := by
  obtain ⟨sv, rfl, hok, h⟩ := h
  exact voteC_len (u8s_len hok.block)
theorem VoteIs.one {B : Nat} {w : World} {cs : List Value} {v : Vote} (h : VoteIs B w cs v) : ∀ u ∈ cs, u.oneCell' = true := by
  obtain ⟨sv, rfl, hok, h⟩ := h
  have h1 := u8s_one v.block
  have h2 := (sl_cells h.1).2
  intro u hu
  simp only [voteC, List.mem_cons, List.mem_append, List.not_mem_nil, or_false] at hu
  rcases hu with rfl | rfl | rfl | hu | rfl | rfl
  · rfl
  · rfl
  · rfl
  · exact h1 u hu
  · rfl
  · exact h2
theorem Ws.callR {R : Value → Prop} {f : Nat} {args : Array Value} {B g : Nat} {w0 w : World} {v0 : Value} {l l' : List UInt8} (h : Ws B w0 v0 g w l)
    (hc : ∀ v, Wr B w g v l → C Tryz.prog f args w fun r w' => R r ∧ Ws B w v g w' l') : C Tryz.prog f args w fun r w' => R r ∧ Ws B w0 v0 g w' l' := by
  obtain ⟨v, hW, hv⟩ := h.now
  exact (hc v hW).mono fun r w' ⟨e, h'⟩ => ⟨e, h.trans hv h'⟩
/-- a box made beside the writer stays -/
theorem Ws.box {B g g2 : Nat} {T : TypeId} {cs : List Value} {w w1 w' : World} {v : Value} {l l' : List UInt8} (hW : Wr B w g v l) (hg2 : w.heap.size ≤ g2) (hb : Blk w1 g2 T cs) (h : Ws B w1 v g w' l') : Blk w' g2 T cs :=
  hb.keep h.upd (by
    rintro (e | e)
    · have := hW.blk.lt; omega
    · have := own_lt hW.own e; omega)
theorem Ws.ext {B g : Nat} {w0 w w1 : World} {v0 : Value} {l : Bytes} (h : Ws B w0 v0 g w l) (hu : Ext w w1) : Ws B w0 v0 g w1 l := by
  obtain ⟨v, hW, hv⟩ := h.now
  exact ⟨⟨v, hW.ext hu, hv⟩, h.upd.ext hu, h.lt, h.base⟩
theorem tVotes : slT Tryz.prog T.sl_api_Vote T.api_Vote 37 88 = true := by kernel_rfl
theorem tVals : slT Tryz.prog T.sl_api_Validator T.api_Validator 34 56 = true := by kernel_rfl
theorem tHashes : slT Tryz.prog T.sl_api_Hash T.api_Hash 32 32 = true := by kernel_rfl
/-- the cells of a commit -/
def CommIs (B : Nat) (w : World) (cs : List Value) (c : Commit) : Prop :=
  ∃ sv, cs = commC (.int .i64 c.height) (.int .i64 c.round) (u8s c.block) sv ∧ c.ok ∧ ListIs (VoteIs B w) B w sv 37 c.votes
theorem VotesIs.keep {B : Nat} {w w' : World} {sv : Value} {l : List Vote} {S : Nat → Prop} (h : ListIs (VoteIs B w) B w sv 37 l) (hu : Upd S w w') (hs : ∀ k, S k → B ≤ k) : ListIs (VoteIs B w') B w' sv 37 l :=
  ListIs.keep h hu hs fun _ _ h => h.keep hu hs
theorem CommIs.keep {B : Nat} {w w' : World} {cs : List Value} {c : Commit} {S : Nat → Prop} (h : CommIs B w cs c) (hu : Upd S w w') (hs : ∀ k, S k → B ≤ k) : CommIs B w' cs c := by
  obtain ⟨sv, rfl, hok, h⟩ := h
  exact ⟨sv, rfl, hok, VotesIs.keep h hu hs⟩
theorem CommIs.len {B : Nat} {w : World} {cs : List Value} {c : Commit} (h : CommIs B w cs c) : cs.length = 35 := by
  obtain ⟨sv, rfl, hok, h⟩ := h
  exact commC_len (u8s_len hok.block)
theorem listIs_one {B sz : Nat} {w : World} {sv : Value} {α : Type} {R : List Value → α → Prop} {xs : List α} (h : ListIs R B w sv sz xs) : sv.cells = #[sv] ∧ sv.oneCell' = true := by
  obtain ⟨xss, h0, h1, h2, h3⟩ := h
  exact sl_cells h3.1
theorem CommIs.one {B : Nat} {w : World} {cs : List Value} {c : Commit} (h : CommIs B w cs c) : ∀ u ∈ cs, u.oneCell' = true := by
  obtain ⟨sv, rfl, hok, h⟩ := h
  have h1 := u8s_one c.block
  have h2 := (listIs_one h).2
  intro u hu
  simp only [commC, List.mem_cons, List.mem_append, List.not_mem_nil, or_false] at hu
  rcases hu with rfl | rfl | hu | rfl
  · rfl
  · rfl
  · exact h1 u hu
  · exact h2
/-- the cells of a header -/
def HeadIs (cs : List Value) (h : Header) : Prop :=
  cs = headC (str h.chain) (.int .i64 h.height) (.int .i64 h.time) (u8s h.last) (u8s h.app) (u8s h.txs) (u8s h.validators) (u8s h.next) (.int .i64 h.proposer) ∧ h.ok
theorem HeadIs.len {cs : List Value} {h : Header} (hh : HeadIs cs h) : cs.length = 164 := by
  obtain ⟨rfl, hok⟩ := hh
  exact headC_len (u8s_len hok.last) (u8s_len hok.app) (u8s_len hok.txs) (u8s_len hok.validators) (u8s_len hok.next)
theorem HeadIs.one {cs : List Value} {h : Header} (hh : HeadIs cs h) : ∀ u ∈ cs, u.oneCell' = true := by
  obtain ⟨rfl, hok⟩ := hh
  intro u hu
  simp only [headC, List.mem_cons, List.mem_append, List.not_mem_nil, or_false] at hu
  rcases hu with rfl | rfl | rfl | hu | hu | hu | hu | hu | rfl
  · rfl
  · rfl
  · rfl
  · exact u8s_one _ u hu
  · exact u8s_one _ u hu
  · exact u8s_one _ u hu
  · exact u8s_one _ u hu
  · exact u8s_one _ u hu
  · rfl
/-- the cell of some bytes -/
def ByteIs (B : Nat) (w : World) (cs : List Value) (t : Bytes) : Prop := ∃ x, cs = [x] ∧ SlB B w x t.length 1 (u8s t)
theorem ByteIs.keep {B : Nat} {w w' : World} {cs : List Value} {t : Bytes} {S : Nat → Prop} (h : ByteIs B w cs t) (hu : Upd S w w') (hs : ∀ k, S k → B ≤ k) : ByteIs B w' cs t := by
  obtain ⟨x, rfl, h⟩ := h
  exact ⟨x, rfl, h.keep hu hs⟩
theorem TxsIs.keep {B : Nat} {w w' : World} {sv : Value} {l : List Bytes} {S : Nat → Prop} (h : ListIs (ByteIs B w) B w sv 1 l) (hu : Upd S w w') (hs : ∀ k, S k → B ≤ k) : ListIs (ByteIs B w') B w' sv 1 l :=
  ListIs.keep h hu hs fun _ _ h => h.keep hu hs
/-- the cells of a block -/
def BlokIs (B : Nat) (w : World) (cs : List Value) (b : Block) : Prop :=
  ∃ hc sv cc, cs = blokC hc sv cc ∧ HeadIs hc b.header ∧ ListIs (ByteIs B w) B w sv 1 b.txs ∧ CommIs B w cc b.last
theorem BlokIs.keep {B : Nat} {w w' : World} {cs : List Value} {b : Block} {S : Nat → Prop} (h : BlokIs B w cs b) (hu : Upd S w w') (hs : ∀ k, S k → B ≤ k) : BlokIs B w' cs b := by
  obtain ⟨hc, sv, cc, rfl, h1, h2, h3⟩ := h
  exact ⟨hc, sv, cc, rfl, h1, TxsIs.keep h2 hu hs, h3.keep hu hs⟩
/-- the cells of a validator -/
def ValiIs (cs : List Value) (v : Validator) : Prop := cs = valiC (str v.name) (u8s v.key) (.int .i64 v.power) ∧ v.ok
theorem ValiIs.len {cs : List Value} {v : Validator} (h : ValiIs cs v) : cs.length = 34 := by
  obtain ⟨rfl, hok⟩ := h
  exact valiC_len (u8s_len hok.key)
theorem ValiIs.one {cs : List Value} {v : Validator} (h : ValiIs cs v) : ∀ u ∈ cs, u.oneCell' = true := by
  obtain ⟨rfl, hok⟩ := h
  intro u hu
  simp only [valiC, List.mem_cons, List.mem_append, List.not_mem_nil, or_false] at hu
  rcases hu with rfl | hu | rfl
  · rfl
  · exact u8s_one _ u hu
  · rfl
theorem ValsIs.keep {B : Nat} {w w' : World} {sv : Value} {l : List Validator} {S : Nat → Prop} (h : ListIs ValiIs B w sv 34 l) (hu : Upd S w w') (hs : ∀ k, S k → B ≤ k) : ListIs ValiIs B w' sv 34 l :=
  ListIs.keep h hu hs fun _ _ h => h
theorem types_putValidator' {B g : Nat} {l : Bytes} {w : World} {v0 : Value} {cs : List Value} {v : Validator} (hv : ValiIs cs v) (hW : Wr B w g v0 l) (hl : l.length + (encValidator v).length + 10 ≤ 2147483648) :
    C Tryz.prog N.types_putValidator #[.pointer (some ⟨g, 0, none⟩), .agg cs.toArray] w fun r w' => r = .tuple #[] ∧ Ws B w v0 g w' (l ++ encValidator v) := by
  obtain ⟨rfl, hok⟩ := hv
  refine C.types_putValidator ?_
  unfold F.types_putValidator
  refine st_box rfl fun g2 w1 hb1 hu1 hg2 => ?_
  have hu1' : Ext w w1.drew := hu1.drew
  have hW1 := hW.ext hu1'
  have hbx : ∀ {w' : World} {l' : Bytes}, Ws B w1.drew v0 g w' l' → Blk w' g2 _ _ := fun h => Ws.box hW hg2 (hb1.ext upd_drew) h
  have hblk := u8s_len hok.key
  have hbl := hok.key
  simp only [encValidator, encI, encB, List.length_append] at hl
  refine dr_by (fun w' => Blk w' g2 T.api_Validator (valiC (str v.name) (u8s v.key) (.int .i64 v.power))) (hb1.ext upd_drew) ?_
  refine mv.mk ?_
  refine vali.t0 (fun _ h => h) ?_
  refine vali.t1 hblk (fun _ h => h) ?_
  refine vali.t2 hblk (fun _ h => h) ?_
  refine (pack_Writer_Text hW1.start (by omega)).mono fun r w2 ⟨e, h2⟩ => ⟨hbx h2, ?_⟩; subst e
  refine (pack_Writer_Hash hok.key h2 (by simp only [List.length_append]; omega)).mono fun r w3 ⟨e, h3⟩ => ⟨hbx h3, ?_⟩; subst e
  refine (pack_Writer_Int hok.power.1 hok.power.2 h3 (by simp only [List.length_append]; omega)).mono fun r w4 ⟨e, h4⟩ => ⟨rfl, ?_⟩
  have := Ws.after hW hu1' h4
  simpa only [encValidator, encI, encB, List.append_assoc] using this
theorem types_putValidator {B g : Nat} {l : Bytes} {w0 w : World} {v0 : Value} {cs : List Value} {v : Validator} (hv : ValiIs cs v) (h : Ws B w0 v0 g w l) (hl : l.length + (encValidator v).length + 10 ≤ 2147483648) :
    C Tryz.prog N.types_putValidator #[.pointer (some ⟨g, 0, none⟩), .agg cs.toArray] w fun r w' => r = .tuple #[] ∧ Ws B w0 v0 g w' (l ++ encValidator v) := h.callR fun _ hW => types_putValidator' hv hW hl
theorem types_putSet {B g : Nat} {l : Bytes} {w0 w : World} {v0 sv : Value} {vs : List Validator} (hs : ListIs ValiIs B w sv 34 vs) (h : Ws B w0 v0 g w l) (hl : l.length + (encSet vs).length + 10 ≤ 2147483648) (hn : vs.length ≤ 2147483648) :
    C Tryz.prog N.types_putSet #[.pointer (some ⟨g, 0, none⟩), sv] w fun r w' => r = .tuple #[] ∧ Ws B w0 v0 g w' (l ++ encSet vs) := by
  refine h.callR fun v1 hW => ?_
  obtain ⟨A, cap, rfl⟩ := hs.len
  refine C.types_putSet ?_
  unfold F.types_putSet
  simp only [encSet, encL, List.length_append] at hl
  repeat (first
    | (refine st1 fun k' hk => ?_; simp [go_sem, thenR_ok, bin]; refine hk _ _ ?_; clear hk k')
    | (refine mv.mk ?_))
  rw [u64_wrap, show ((vs.length : Nat) : Int) % 18446744073709551616 = ((vs.length : Nat) : Int) by omega]
  have := encU_len10 (n := vs.length) (by omega)
  have := encU_pos vs.length
  refine (pack_Writer_Uint (n := vs.length) (by omega) hW.start (by omega)).mono fun r w3 ⟨_, h3⟩ => ?_
  repeat (first
    | (refine st1 fun k' hk => ?_; simp [go_sem, thenR_ok, bin]; refine hk _ _ ?_; clear hk k')
    | (refine mv.mk ?_))
  refine lp_by (fun us w' => ∃ i : Nat, us = [.int .i64 i] ∧ i ≤ vs.length ∧ Ws B w v1 g w' (l ++ encU vs.length ++ ((vs.take i).map encValidator).flatten)) (fun us _ => match us with | [.int _ m] => vs.length - m.toNat | _ => 0) ⟨0, rfl, Nat.zero_le _, by simpa using h3⟩ ?_
  rintro x w6 ⟨i, hx, hi, h6⟩
  simp only [List.cons.injEq, and_true] at hx
  rw [hx]
  refine st1 fun k' hk => ?_; simp [go_sem, thenR_ok, bin]; refine hk _ _ ?_; clear hk k'
  refine br_split (fun hb => ?_) (fun hb => ?_)
  · have hi' : i < vs.length := by simpa using hb
    have hs6 := ValsIs.keep hs h6.low fun _ h => h
    have hfl := encL_take encValidator hi'
    refine st_idx hs6 tVals i rfl hi' fun g3 o3 y hr hyl hyv hg3 => ?_
    refine st_of (load_agg (by kernel_rfl) hr hyl) ?_
    refine st_var (by kernel_rfl) hyl hyv.one fun g4 w7 hb7 hu7 hg4 => ?_
    refine mv.mk ?_
    refine load_blk (by kernel_rfl) hb7 hyl ?_
    have h7 := h6.ext hu7
    refine (types_putValidator hyv h7 (by simp only [List.length_append]; omega)).mono fun r w8 ⟨e, h8⟩ => ?_
    refine st1 fun k' hk => ?_; simp [go_sem, thenR_ok, bin]; refine hk _ _ ?_; clear hk k'
    refine mv.mk ⟨⟨i + 1, ?_, hi', ?_⟩, ?_⟩
    · simp only [List.cons.injEq, Value.int.injEq, true_and, and_true]
      rw [i64_wrap (by omega) (by omega)]; rfl
    · rw [flat_take_succ encValidator hi', ← List.append_assoc]; exact h8
    · rw [i64_wrap (by omega) (by omega)]; simp; omega
  · have hi' : i = vs.length := by have : ¬ i < vs.length := by simpa using hb
                                   omega
    subst hi'
    refine ⟨rfl, ?_⟩
    rw [List.take_length] at h6
    simpa only [encSet, encL, List.append_assoc] using h6
end Go.Proofs.YtlfelmikcdmkhaaGreatDoor
