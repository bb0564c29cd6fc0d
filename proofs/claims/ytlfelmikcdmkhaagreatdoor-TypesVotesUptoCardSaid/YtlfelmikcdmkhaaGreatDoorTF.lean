/- types: Encode. -/
import Derived.Test.YtlfelmikcdmkhaaGreatDoorTE
set_option linter.unusedVariables false
set_option linter.unusedSimpArgs false
set_option linter.unusedSectionVars false
namespace Go.Proofs.YtlfelmikcdmkhaaGreatDoor
open Go Go.Isk Go.RowKit
/-- r is a new slice of just these bytes; what was there stays -/
def NewB (w : World) (r : Value) (w' : World) (l : Bytes) : Prop := Sl w' r l.length 1 (u8s l) ∧ Ext w w' ∧ (∀ k, r.ownBlock = some k → w.heap.size ≤ k)
theorem NewB.after {w w1 w2 : World} {r : Value} {l : Bytes} (hu : Ext w w1) (h : NewB w1 r w2 l) : NewB w r w2 l := ⟨h.1, hu.after h.2.1, fun k hk => Nat.le_trans hu.size (h.2.2 k hk)⟩
theorem low_ext {B : Nat} {w w1 w2 : World} (hu : Ext w w1) (hl : Low B w1 w2) (hB : w.heap.size ≤ B) : Ext w w2 := hu.trans hl fun k hk hs => absurd hs (by omega)
theorem listIs_mono {α : Type} {R R' : List Value → α → Prop} {B B' sz : Nat} {w : World} {sv : Value} {xs : List α} (h : ListIs R B w sv sz xs) (hs : ∀ n ys, SlB B w sv n sz ys → SlB B' w sv n sz ys) (hR : ∀ x a, R x a → R' x a) : ListIs R' B' w sv sz xs := by
  obtain ⟨xss, h0, h1, h2, h3⟩ := h
  exact ⟨xss, h0, fun i hi x hx => hR _ _ (h1 i hi x hx), h2, hs _ _ h3⟩
theorem VoteIs.mono {B B' : Nat} {w : World} {cs : List Value} {v : Vote} (h : VoteIs B w cs v) (hB : B ≤ B') : VoteIs B' w cs v := by
  obtain ⟨sv, rfl, hok, h⟩ := h
  exact ⟨sv, rfl, hok, h.mono hB⟩
theorem VotesIs.mono {B B' : Nat} {w : World} {sv : Value} {l : List Vote} (h : ListIs (VoteIs B w) B w sv 37 l) (hB : B ≤ B') : ListIs (VoteIs B' w) B' w sv 37 l := listIs_mono h (fun _ _ h => h.mono hB) fun _ _ h => h.mono hB
theorem CommIs.mono {B B' : Nat} {w : World} {cs : List Value} {c : Commit} (h : CommIs B w cs c) (hB : B ≤ B') : CommIs B' w cs c := by
  obtain ⟨sv, rfl, hok, h⟩ := h
  exact ⟨sv, rfl, hok, VotesIs.mono h hB⟩
theorem ByteIs.mono {B B' : Nat} {w : World} {cs : List Value} {t : Bytes} (h : ByteIs B w cs t) (hB : B ≤ B') : ByteIs B' w cs t := by
  obtain ⟨x, rfl, h⟩ := h
  exact ⟨x, rfl, h.mono hB⟩
theorem TxsIs.mono {B B' : Nat} {w : World} {sv : Value} {l : List Bytes} (h : ListIs (ByteIs B w) B w sv 1 l) (hB : B ≤ B') : ListIs (ByteIs B' w) B' w sv 1 l := listIs_mono h (fun _ _ h => h.mono hB) fun _ _ h => h.mono hB
theorem BlokIs.mono {B B' : Nat} {w : World} {cs : List Value} {b : Block} (h : BlokIs B w cs b) (hB : B ≤ B') : BlokIs B' w cs b := by
  obtain ⟨hc, sv, cc, rfl, h1, h2, h3⟩ := h
  exact ⟨hc, sv, cc, rfl, h1, TxsIs.mono h2 hB, h3.mono hB⟩
theorem BlokIs.len {B : Nat} {w : World} {cs : List Value} {b : Block} (h : BlokIs B w cs b) : cs.length = 200 := by
  obtain ⟨hc, sv, cc, rfl, h1, h2, h3⟩ := h
  exact blokC_len h1.len h3.len
theorem ValsIs.mono {B B' : Nat} {w : World} {sv : Value} {l : List Validator} (h : ListIs ValiIs B w sv 34 l) (hB : B ≤ B') : ListIs ValiIs B' w sv 34 l := listIs_mono h (fun _ _ h => h.mono hB) fun _ _ h => h
theorem types_VoteBytes {B : Nat} {w : World} {cs : List Value} {chain : Bytes} {v : Vote} (hv : VoteIs B w cs v) (hl : (encVoteBytes chain v).length + 10 ≤ 2147483648) :
    C Tryz.prog N.types_VoteBytes #[str chain, .agg cs.toArray] w fun r w' => NewB w r w' (encVoteBytes chain v) := by
  obtain ⟨sv, rfl, hok, hs⟩ := hv
  refine C.types_VoteBytes ?_
  unfold F.types_VoteBytes
  refine st_box rfl fun g2 w1 hb1 hu1 hg2 => ?_
  have hu1' : Ext w w1.drew := hu1.drew
  have hblk := u8s_len hok.block
  have hbl := hok.block
  simp only [encVoteBytes, encI, encB, List.length_append] at hl
  refine mv.mk ?_
  refine dr_by (fun w' => Blk w' g2 T.api_Vote (voteC (.int .i64 v.kind) (.int .i64 v.height) (.int .i64 v.round) (u8s v.block) (.int .i64 v.validator) sv)) (hb1.ext upd_drew) ?_
  refine mv.mk ?_
  refine vote.t0 (fun _ h => h) ?_
  refine vote.t1 (fun _ h => h) ?_
  refine vote.t2 (fun _ h => h) ?_
  refine vote.t3 hblk (fun _ h => h) ?_
  refine pack_New.mono fun r w2 ⟨g, e, hW, hu2⟩ => ?_
  have hb2 := (hb1.ext upd_drew).ext hu2
  have hbx : ∀ {w' : World} {l' : Bytes}, Ws w1.drew.heap.size w2 (.slice none 0 0) g w' l' → Blk w' g2 _ _ := fun h => hb2.keep h.low (by have := (hb1.ext (upd_drew (S := fun _ => False))).lt; omega)
  refine ⟨hb2, ?_⟩; subst e
  rw [show (Value.string ⟨#[118, 111, 116, 101]⟩) = str voteTag from rfl]
  refine (pack_Writer_Text hW.start (by simp only [List.length_append, List.length_nil]; omega)).mono fun r w3 ⟨e, h3⟩ => ⟨hbx h3, ?_⟩; subst e
  refine (pack_Writer_Text h3 (by simp only [List.length_append, List.length_nil]; omega)).mono fun r w4 ⟨e, h4⟩ => ⟨hbx h4, ?_⟩; subst e
  refine (pack_Writer_Int hok.kind.1 hok.kind.2 h4 (by simp only [List.length_append, List.length_nil]; omega)).mono fun r w5 ⟨e, h5⟩ => ⟨hbx h5, ?_⟩; subst e
  refine (pack_Writer_Int hok.height.1 hok.height.2 h5 (by simp only [List.length_append, List.length_nil]; omega)).mono fun r w6 ⟨e, h6⟩ => ⟨hbx h6, ?_⟩; subst e
  refine (pack_Writer_Int hok.round.1 hok.round.2 h6 (by simp only [List.length_append, List.length_nil]; omega)).mono fun r w7 ⟨e, h7⟩ => ⟨hbx h7, ?_⟩; subst e
  refine (pack_Writer_Hash hok.block h7 (by simp only [List.length_append, List.length_nil]; omega)).mono fun r w8 ⟨e, h8⟩ => ⟨hbx h8, ?_⟩; subst e
  have hL := h8.low
  have hb8 := hbx h8
  obtain ⟨v8, hW8, _⟩ := h8.now
  refine (pack_Writer_Done hW8 (by simp only [List.length_append, List.length_nil]; omega)).mono fun r w9 ⟨q1, q2, q3⟩ => ⟨hb8.ext q2, mv.mk ⟨?_, ?_, fun k hk => ?_⟩⟩
  · simpa only [encVoteBytes, encI, encB, List.append_assoc, List.nil_append] using q1
  · exact (low_ext (hu1'.ext hu2) hL hu1'.size).ext q2
  · exact Nat.le_trans (Nat.le_trans (Nat.le_trans hu1'.size hu2.size) hL.size) (q3 k hk)
end Go.Proofs.YtlfelmikcdmkhaaGreatDoor
