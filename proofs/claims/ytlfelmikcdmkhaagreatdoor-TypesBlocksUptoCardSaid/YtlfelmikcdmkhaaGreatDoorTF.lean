/- types: Encode. -/
import Derived.Test.YtlfelmikcdmkhaaGreatDoorTE
set_option linter.unusedVariables false
set_option linter.unusedSimpArgs false
set_option linter.unusedSectionVars false
namespace Go.Proofs.YtlfelmikcdmkhaaGreatDoor
open Go Go.Isk Go.RowKit
/-- r is a new slice of just these bytes; what was there stays -/
def NewB (w : World) (r : Value) (w' : World) (l : Bytes) : Prop := Sl w' r l.length 1 (u8s l) ∧ Ext w w' ∧ (∀ k, r.ownBlock = some k → w.heap.size ≤ k)
theorem NewB.after {w w1 w2 : World} {r : Value} {l : Bytes} (hu : Ext w w1) (h : NewB w1 r w2 l) : NewB w r w2 l := ⟨h.1, hu.after h.2.1, fun k hk => Nat.le_trans hu.size (h.2.2 k hk)⟩
theorem low_ext {B : Nat} {w w1 w2 : World} (hu : Ext w w1) (hl : Low B w1 w2) (hB : w.heap.size ≤ B) : Ext w w2 := hu.trans hl fun k hk hs => absurd hs (by omega)
theorem SlB.top {B : Nat} {w : World} {v : Value} {n sz : Nat} {xs : List Value} (h : SlB B w v n sz xs) : SlB w.heap.size w v n sz xs := h.1.b
theorem listIs_mono {α : Type} {R R' : List Value → α → Prop} {B B' sz : Nat} {w : World} {sv : Value} {xs : List α} (h : ListIs R B w sv sz xs) (hs : ∀ n ys, SlB B w sv n sz ys → SlB B' w sv n sz ys) (hR : ∀ x a, R x a → R' x a) : ListIs R' B' w sv sz xs := by
  obtain ⟨xss, h0, h1, h2, h3⟩ := h
  exact ⟨xss, h0, fun i hi x hx => hR _ _ (h1 i hi x hx), h2, hs _ _ h3⟩
theorem VoteIs.top {B : Nat} {w : World} {cs : List Value} {v : Vote} (h : VoteIs B w cs v) : VoteIs w.heap.size w cs v := by
  obtain ⟨sv, rfl, hok, h⟩ := h
  exact ⟨sv, rfl, hok, SlB.top h⟩
theorem VoteIs.mono {B B' : Nat} {w : World} {cs : List Value} {v : Vote} (h : VoteIs B w cs v) (hB : B ≤ B') : VoteIs B' w cs v := by
  obtain ⟨sv, rfl, hok, h⟩ := h
  exact ⟨sv, rfl, hok, h.mono hB⟩
theorem VotesIs.top {B : Nat} {w : World} {sv : Value} {l : List Vote} (h : ListIs (VoteIs B w) B w sv 37 l) : ListIs (VoteIs w.heap.size w) w.heap.size w sv 37 l := listIs_mono h (fun _ _ h => SlB.top h) fun _ _ h => h.top
theorem VotesIs.mono {B B' : Nat} {w : World} {sv : Value} {l : List Vote} (h : ListIs (VoteIs B w) B w sv 37 l) (hB : B ≤ B') : ListIs (VoteIs B' w) B' w sv 37 l := listIs_mono h (fun _ _ h => h.mono hB) fun _ _ h => h.mono hB
theorem CommIs.top {B : Nat} {w : World} {cs : List Value} {c : Commit} (h : CommIs B w cs c) : CommIs w.heap.size w cs c := by
  obtain ⟨sv, rfl, hok, h⟩ := h
  exact ⟨sv, rfl, hok, VotesIs.top h⟩
theorem CommIs.mono {B B' : Nat} {w : World} {cs : List Value} {c : Commit} (h : CommIs B w cs c) (hB : B ≤ B') : CommIs B' w cs c := by
  obtain ⟨sv, rfl, hok, h⟩ := h
  exact ⟨sv, rfl, hok, VotesIs.mono h hB⟩
theorem ByteIs.top {B : Nat} {w : World} {cs : List Value} {t : Bytes} (h : ByteIs B w cs t) : ByteIs w.heap.size w cs t := by
  obtain ⟨x, rfl, h⟩ := h
  exact ⟨x, rfl, SlB.top h⟩
theorem ByteIs.mono {B B' : Nat} {w : World} {cs : List Value} {t : Bytes} (h : ByteIs B w cs t) (hB : B ≤ B') : ByteIs B' w cs t := by
  obtain ⟨x, rfl, h⟩ := h
  exact ⟨x, rfl, h.mono hB⟩
theorem TxsIs.top {B : Nat} {w : World} {sv : Value} {l : List Bytes} (h : ListIs (ByteIs B w) B w sv 1 l) : ListIs (ByteIs w.heap.size w) w.heap.size w sv 1 l := listIs_mono h (fun _ _ h => SlB.top h) fun _ _ h => h.top
theorem TxsIs.mono {B B' : Nat} {w : World} {sv : Value} {l : List Bytes} (h : ListIs (ByteIs B w) B w sv 1 l) (hB : B ≤ B') : ListIs (ByteIs B' w) B' w sv 1 l := listIs_mono h (fun _ _ h => h.mono hB) fun _ _ h => h.mono hB
theorem BlokIs.top {B : Nat} {w : World} {cs : List Value} {b : Block} (h : BlokIs B w cs b) : BlokIs w.heap.size w cs b := by
  obtain ⟨hc, sv, cc, rfl, h1, h2, h3⟩ := h
  exact ⟨hc, sv, cc, rfl, h1, TxsIs.top h2, h3.top⟩
theorem BlokIs.mono {B B' : Nat} {w : World} {cs : List Value} {b : Block} (h : BlokIs B w cs b) (hB : B ≤ B') : BlokIs B' w cs b := by
  obtain ⟨hc, sv, cc, rfl, h1, h2, h3⟩ := h
  exact ⟨hc, sv, cc, rfl, h1, TxsIs.mono h2 hB, h3.mono hB⟩
theorem BlokIs.len {B : Nat} {w : World} {cs : List Value} {b : Block} (h : BlokIs B w cs b) : cs.length = 200 := by
  obtain ⟨hc, sv, cc, rfl, h1, h2, h3⟩ := h
  exact blokC_len h1.len h3.len
theorem ValsIs.top {B : Nat} {w : World} {sv : Value} {l : List Validator} (h : ListIs ValiIs B w sv 34 l) : ListIs ValiIs w.heap.size w sv 34 l := listIs_mono h (fun _ _ h => SlB.top h) fun _ _ h => h
theorem ValsIs.mono {B B' : Nat} {w : World} {sv : Value} {l : List Validator} (h : ListIs ValiIs B w sv 34 l) (hB : B ≤ B') : ListIs ValiIs B' w sv 34 l := listIs_mono h (fun _ _ h => h.mono hB) fun _ _ h => h
theorem types_encode_Commit {B : Nat} {w : World} {cs : List Value} {c : Commit} (hv : CommIs B w cs c) (hl : (encCommit c).length + 10 ≤ 2147483648) (hn : c.votes.length ≤ 2147483648) :
    C Tryz.prog N.types_encode_api_Commit #[.agg cs.toArray, .func (.func N.types_putCommit) #[] #[]] w fun r w' => NewB w r w' (encCommit c) := by
  refine C.types_encode_api_Commit ?_
  unfold F.types_encode_api_Commit
  refine st_box rfl fun g2 w1 hb1 hu1 hg2 => ?_
  refine mv.mk ?_
  refine pack_New.mono fun r w2 ⟨g, e, hW, hu2⟩ => ?_
  subst e
  refine mv.mk (mv.mk (mv.mk ?_))
  refine load_blk (by kernel_rfl) (hb1.ext hu2) hv.len ?_
  refine cv_f (by kernel_rfl) ?_
  refine (types_putCommit (((hv.top.keep hu1 fun _ h => h.elim).keep hu2 fun _ h => h.elim).mono (Nat.le_trans (Nat.le_of_eq rfl) hu1.size)) hW.start (by simpa using hl) hn).mono fun r w3 ⟨_, h3⟩ => ?_
  refine mv.mk ?_
  have hL := h3.low
  obtain ⟨v3, hW3, _⟩ := h3.now
  rw [List.nil_append] at hW3
  refine (pack_Writer_Done hW3 (by omega)).mono fun r w4 ⟨h1, h2, h3⟩ => mv.mk ⟨h1, ?_, fun k hk => ?_⟩
  · exact (low_ext (hu1.ext hu2) hL hu1.size).ext h2
  · exact Nat.le_trans (Nat.le_trans (Nat.le_trans hu1.size hu2.size) hL.size) (h3 k hk)
theorem types_EncodeCommit {B : Nat} {w : World} {cs : List Value} {c : Commit} (hv : CommIs B w cs c) (hl : (encCommit c).length + 10 ≤ 2147483648) (hn : c.votes.length ≤ 2147483648) :
    C Tryz.prog N.types_EncodeCommit #[.agg cs.toArray] w fun r w' => NewB w r w' (encCommit c) := by
  refine C.types_EncodeCommit ?_
  unfold F.types_EncodeCommit
  refine st_box rfl fun g2 w1 hb1 hu1 hg2 => ?_
  refine mv.mk ?_
  refine load_blk (by kernel_rfl) hb1 hv.len ?_
  exact (types_encode_Commit (hv.keep hu1 fun _ h => h.elim) hl hn).mono fun r w2 h => mv.mk (h.after hu1)
theorem types_encode_Header {w : World} {cs : List Value} {h : Header} (hv : HeadIs cs h) (hl : (encHeader h).length + 10 ≤ 2147483648) :
    C Tryz.prog N.types_encode_api_Header #[.agg cs.toArray, .func (.func N.types_putHeader) #[] #[]] w fun r w' => NewB w r w' (encHeader h) := by
  refine C.types_encode_api_Header ?_
  unfold F.types_encode_api_Header
  refine st_box rfl fun g2 w1 hb1 hu1 hg2 => ?_
  refine mv.mk ?_
  refine pack_New.mono fun r w2 ⟨g, e, hW, hu2⟩ => ?_
  subst e
  refine mv.mk (mv.mk (mv.mk ?_))
  refine load_blk (by kernel_rfl) (hb1.ext hu2) hv.len ?_
  refine cv_f (by kernel_rfl) ?_
  refine (types_putHeader (hv) hW.start (by simpa using hl)).mono fun r w3 ⟨_, h3⟩ => ?_
  refine mv.mk ?_
  have hL := h3.low
  obtain ⟨v3, hW3, _⟩ := h3.now
  rw [List.nil_append] at hW3
  refine (pack_Writer_Done hW3 (by omega)).mono fun r w4 ⟨h1, h2, h3⟩ => mv.mk ⟨h1, ?_, fun k hk => ?_⟩
  · exact (low_ext (hu1.ext hu2) hL hu1.size).ext h2
  · exact Nat.le_trans (Nat.le_trans (Nat.le_trans hu1.size hu2.size) hL.size) (h3 k hk)
theorem types_EncodeHeader {w : World} {cs : List Value} {h : Header} (hv : HeadIs cs h) (hl : (encHeader h).length + 10 ≤ 2147483648) :
    C Tryz.prog N.types_EncodeHeader #[.agg cs.toArray] w fun r w' => NewB w r w' (encHeader h) := by
  refine C.types_EncodeHeader ?_
  unfold F.types_EncodeHeader
  refine st_box rfl fun g2 w1 hb1 hu1 hg2 => ?_
  refine mv.mk ?_
  refine load_blk (by kernel_rfl) hb1 hv.len ?_
  exact (types_encode_Header hv hl).mono fun r w2 h => mv.mk (h.after hu1)
theorem types_encode_Block {B : Nat} {w : World} {cs : List Value} {b : Block} (hv : BlokIs B w cs b) (hl : (encBlock b).length + 10 ≤ 2147483648) (hn : b.txs.length ≤ 2147483648) (hn2 : b.last.votes.length ≤ 2147483648) :
    C Tryz.prog N.types_encode_api_Block #[.agg cs.toArray, .func (.func N.types_putBlock) #[] #[]] w fun r w' => NewB w r w' (encBlock b) := by
  refine C.types_encode_api_Block ?_
  unfold F.types_encode_api_Block
  refine st_box rfl fun g2 w1 hb1 hu1 hg2 => ?_
  refine mv.mk ?_
  refine pack_New.mono fun r w2 ⟨g, e, hW, hu2⟩ => ?_
  subst e
  refine mv.mk (mv.mk (mv.mk ?_))
  refine load_blk (by kernel_rfl) (hb1.ext hu2) hv.len ?_
  refine cv_f (by kernel_rfl) ?_
  refine (types_putBlock (((hv.top.keep hu1 fun _ h => h.elim).keep hu2 fun _ h => h.elim).mono (Nat.le_trans (Nat.le_of_eq rfl) hu1.size)) hW.start (by simpa using hl) hn hn2).mono fun r w3 ⟨_, h3⟩ => ?_
  refine mv.mk ?_
  have hL := h3.low
  obtain ⟨v3, hW3, _⟩ := h3.now
  rw [List.nil_append] at hW3
  refine (pack_Writer_Done hW3 (by omega)).mono fun r w4 ⟨h1, h2, h3⟩ => mv.mk ⟨h1, ?_, fun k hk => ?_⟩
  · exact (low_ext (hu1.ext hu2) hL hu1.size).ext h2
  · exact Nat.le_trans (Nat.le_trans (Nat.le_trans hu1.size hu2.size) hL.size) (h3 k hk)
theorem types_EncodeBlock {B : Nat} {w : World} {cs : List Value} {b : Block} (hv : BlokIs B w cs b) (hl : (encBlock b).length + 10 ≤ 2147483648) (hn : b.txs.length ≤ 2147483648) (hn2 : b.last.votes.length ≤ 2147483648) :
    C Tryz.prog N.types_EncodeBlock #[.agg cs.toArray] w fun r w' => NewB w r w' (encBlock b) := by
  refine C.types_EncodeBlock ?_
  unfold F.types_EncodeBlock
  refine st_box rfl fun g2 w1 hb1 hu1 hg2 => ?_
  refine mv.mk ?_
  refine load_blk (by kernel_rfl) hb1 hv.len ?_
  exact (types_encode_Block (hv.keep hu1 fun _ h => h.elim) hl hn hn2).mono fun r w2 h => mv.mk (h.after hu1)
end Go.Proofs.YtlfelmikcdmkhaaGreatDoor
