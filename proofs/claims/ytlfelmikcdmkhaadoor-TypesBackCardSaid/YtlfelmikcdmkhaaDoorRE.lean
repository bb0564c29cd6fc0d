/- The document's answer, chapter 11: things as bytes. Printed by gen_re.py. -/
import Derived.Test.YtlfelmikcdmkhaaDoorR2
set_option linter.unusedVariables false
set_option linter.unusedSimpArgs false
set_option linter.unusedSectionVars false
namespace Go.Proofs.YtlfelmikcdmkhaaDoor
open Go Go.Isk Go.RowKit
theorem NewB.then {w0 w w' : World} {r r' : Value} {l l' : Bytes} (h : NewB w0 r w l) (h' : NewB w r' w' l') : NewB w0 r' w' l' := NewB.after h.2.1 h'
theorem NewB.drew {w0 w : World} {r : Value} {l : Bytes} (h : NewB w0 r w l) : NewB w0 r w.drew l := ⟨h.1.ext upd_drew, h.2.1.drew, h.2.2⟩
theorem isthmusref11_Vote {B : Nat} {w : World} {b : Value} {l : Bytes} {cs : List Value} {v : Vote} (hb : Sl w b l.length 1 (u8s l)) (hv : VoteIs B w cs v) (hl : l.length + (encVote v).length + 10 ≤ 2147483648) :
    C Tryd.prog N.isthmusref11_Vote #[b, .agg cs.toArray] w fun r w' => NewB w r w' (l ++ encVote v) := by
  obtain ⟨sv, rfl, hok, hs⟩ := hv
  refine C.isthmusref11_Vote ?_
  unfold F.isthmusref11_Vote
  refine st_box rfl fun g2 w1 hb1 hu0 hg2 => ?_
  have hu1 : Ext w w1.drew := hu0.drew
  have hb1' : Blk w1.drew g2 _ _ := hb1.ext upd_drew
  have hblk := u8s_len hok.block
  have hbl := hok.block
  have hs1 := hs.ext hu1
  simp only [encVote, encI, encB, List.length_append] at hl
  simp only [encVote, encI]
  refine mv.mk ?_
  refine dr_by (fun w' => Blk w' g2 T.api_Vote (voteC (.int .i64 v.kind) (.int .i64 v.height) (.int .i64 v.round) (u8s v.block) (.int .i64 v.validator) sv)) (hb1') ?_
  refine mv.mk ?_
  refine vote.t0 (fun _ h => h) ?_
  refine vote.t1 (fun _ h => h) ?_
  refine vote.t2 (fun _ h => h) ?_
  refine vote.t3 hblk (fun _ h => h) ?_
  refine (isthmusref02_Int (hb.ext hu1) hok.kind (by omega)).mono fun r w2 h2 => ?_
  have h2 := NewO.b h2
  refine ⟨hb1'.ext h2.2.1, ?_⟩
  refine (isthmusref02_Int h2.1 hok.height (by simp only [encI, List.length_append]; omega)).mono fun r w3 h3 => ?_
  have h3 := NewB.then h2 h3.b
  refine ⟨hb1'.ext h3.2.1, ?_⟩
  refine (isthmusref02_Int h3.1 hok.round (by simp only [encI, List.length_append]; omega)).mono fun r w4 h4 => ?_
  have h4 := NewB.then h3 h4.b
  refine ⟨hb1'.ext h4.2.1, ?_⟩
  refine (isthmusref02_Hash h4.1 hok.block (by simp only [encI, List.length_append]; omega)).mono fun r w5 h5 => ?_
  have h5 := NewB.then h4 h5.b
  refine ⟨hb1'.ext h5.2.1, ?_⟩
  refine mv.mk ?_
  have h6 := h5.drew
  refine dr_by (fun w' => Blk w' g2 T.api_Vote (voteC (.int .i64 v.kind) (.int .i64 v.height) (.int .i64 v.round) (u8s v.block) (.int .i64 v.validator) sv)) (hb1'.ext h6.2.1) ?_
  refine mv.mk ?_
  refine vote.t4 hblk (fun _ h => h) ?_
  refine vote.t5 hblk (fun _ h => h) ?_
  refine (isthmusref02_Int h6.1 hok.validator (by simp only [encI, List.length_append]; omega)).mono fun r w7 h7 => ?_
  have h7 := NewB.then h6 h7.b
  refine ⟨hb1'.ext h7.2.1, ?_⟩
  refine (isthmusref02_Bytes h7.1 (hs1.1.ext h7.2.1) (by simp only [encI, List.length_append]; omega)).mono fun r w8 h8 => ?_
  have h8 := NewB.then h7 h8.b
  refine ⟨hb1'.ext h8.2.1, ?_⟩
  refine mv.mk ?_
  have := NewB.after hu1 h8
  simpa only [encI, List.append_assoc] using this
end Go.Proofs.YtlfelmikcdmkhaaDoor
