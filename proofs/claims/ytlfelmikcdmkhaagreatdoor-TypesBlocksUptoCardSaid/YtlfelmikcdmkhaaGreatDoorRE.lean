/- The document's answer, chapter 2: bytes behind others. -/
import Derived.Test.YtlfelmikcdmkhaaGreatDoorK8
import Derived.Test.YtlfelmikcdmkhaaGreatDoorTF
set_option linter.unusedVariables false
set_option linter.unusedSimpArgs false
set_option linter.unusedSectionVars false
namespace Go.Proofs.YtlfelmikcdmkhaaGreatDoor
open Go Go.Isk Go.RowKit
/-- r is a new row of just these bytes; what was there stays -/
def NewO (w : World) (r : Value) (w' : World) (l : Bytes) : Prop := w'.ownsRow w.heap.size T.uint8 1 r l.length (u8s l) ∧ Ext w w'
theorem NewO.b {w w' : World} {r : Value} {l : Bytes} (h : NewO w r w' l) : NewB w r w' l := ⟨.of_own h.1, h.2, fun _ hk => own_ge h.1 hk⟩
theorem NewO.after {w w1 w2 : World} {r : Value} {l : Bytes} (hu : Ext w w1) (h : NewO w1 r w2 l) : NewO w r w2 l := ⟨own_base h.1 fun k hk => Nat.le_trans hu.size (own_ge h.1 hk), hu.after h.2⟩
theorem isthmusref02_Uint {w : World} {b : Value} {l : Bytes} {n : Nat} (hb : Sl w b l.length 1 (u8s l)) (hn : n < 18446744073709551616) (hl : l.length + 10 ≤ 2147483648) :
    C Tryz.prog N.isthmusref02_Uint #[b, .int .u64 n] w fun r w' => NewO w r w' (l ++ encU n) := by
  refine C.isthmusref02_Uint ?_
  unfold F.isthmusref02_Uint
  refine mv.mk (mv.mk (mv.mk (mv.mk ?_)))
  refine st_app (B := w.heap.size) tBytes own_nil hb (u8s_one _) (by omega) (by omega) (Nat.le_refl _) fun v' w2 ho2 hu2 hv' => mv.mk ?_
  have hu2' : Ext w w2 := hu2.mono fun k _ hs => by simp [Value.ownBlock] at hs
  have hlen := encU_len10 hn
  refine lp_by (fun vs w' => ∃ (m : Nat) (l' : Bytes) (v : Value), vs = [.int .u64 m, v] ∧ m < 18446744073709551616 ∧ w'.ownsRow w.heap.size T.uint8 1 v l'.length (u8s l') ∧ Ext w w' ∧ l' ++ encU m = l ++ encU n) (fun vs _ => match vs with | [.int _ m, _] => m.toNat | _ => 0) ⟨n, l, _, rfl, hn, by simpa using ho2, hu2', rfl⟩ ?_
  rintro x w1 ⟨m, l', v, hx, hm, ho, hu, he⟩
  simp only [List.cons.injEq, and_true] at hx
  rw [hx.1, hx.2]
  have hll : l'.length + (encU m).length = l.length + (encU n).length := by rw [← List.length_append, he, List.length_append]
  have hpos := encU_pos m
  repeat (first
    | (refine st1 fun k' hk => ?_; simp [go_sem, thenR_ok, bin]; refine hk _ _ ?_; clear hk k')
    | (refine mv.mk ?_))
  by_cases h : 127 < m
  · rw [show decide ((127 : Int) < (m : Int)) = true by simpa using (by omega : (127 : Int) < (m : Int))]
    repeat (first
      | (refine st1 fun k' hk => ?_; simp [go_sem, thenR_ok, bin]; refine hk _ _ ?_; clear hk k')
      | (refine br_t ?_) | (refine mv.mk ?_))
    rw [rem128]
    refine st_app1 tBytes ho rfl (by omega) (by omega) hu.size fun v' w3 ho3 hu3 hv3 => ?_
    repeat (first
      | (refine st1 fun k' hk => ?_; simp [go_sem, thenR_ok, bin]; refine hk _ _ ?_; clear hk k')
      | (refine mv.mk ?_))
    rw [show IntKind.u64.wrap ((m : Int) / 128) = ((m / 128 : Nat) : Int) by rw [u64_wrap]; omega]
    have hu13 : Ext w w3 := hu.trans hu3 fun k hk hs => absurd (own_ge ho hs) (by omega)
    refine ⟨⟨m / 128, l' ++ [UInt8.ofNat (m % 128 + 128)], v', rfl, by omega, by rw [u8s_append, List.length_append]; exact ho3, hu13, ?_⟩, by simp; omega⟩
    rw [List.append_assoc, ← he, encU_big (n := m) (by omega)]; rfl
  · rw [show decide ((127 : Int) < (m : Int)) = false by simpa using (by omega : (m : Int) ≤ (127 : Int))]
    repeat (first
      | (refine st1 fun k' hk => ?_; simp [go_sem, thenR_ok, bin]; refine hk _ _ ?_; clear hk k')
      | (refine br_f ?_) | (refine mv.mk ?_))
    rw [u8_nat]
    refine st_app1 tBytes ho rfl (by omega) (by omega) hu.size fun v' w3 ho3 hu3 hv3 => mv.mk ?_
    have hu13 : Ext w w3 := hu.trans hu3 fun k hk hs => absurd (own_ge ho hs) (by omega)
    refine ⟨?_, hu13⟩
    rw [← he, encU_small (n := m) (by omega), u8s_append, List.length_append]; exact ho3
theorem isthmusref02_Int {w : World} {b : Value} {l : Bytes} {n : Int} (hb : Sl w b l.length 1 (u8s l)) (hn : I64 n) (hl : l.length + 10 ≤ 2147483648) :
    C Tryz.prog N.isthmusref02_Int #[b, .int .i64 n] w fun r w' => NewO w r w' (l ++ encI n) := by
  obtain ⟨h1, h2⟩ := hn
  refine C.isthmusref02_Int ?_
  unfold F.isthmusref02_Int
  repeat (first
    | (refine st1 fun k' hk => ?_; simp [go_sem, thenR_ok, bin]; refine hk _ _ ?_; clear hk k')
    | (refine mv.mk ?_))
  by_cases h : n < 0
  · rw [show decide (n < 0) = true by simpa using h]
    repeat (first
      | (refine st1 fun k' hk => ?_; simp [go_sem, thenR_ok, bin]; refine hk _ _ ?_; clear hk k')
      | (refine br_t ?_) | (refine mv.mk ?_))
    rw [show IntKind.u64.wrap (IntKind.u64.wrap (2 * IntKind.u64.wrap (IntKind.i64.wrap (-IntKind.i64.wrap (n + 1)))) + 1) = ((zig n : Nat) : Int) by
      rw [i64_wrap (n := n + 1) (by omega) (by omega), i64_wrap (by omega) (by omega)]
      simp only [u64_wrap, zig, if_pos h]
      omega]
    exact (isthmusref02_Uint hb (Go.Isk.zig_lt ⟨h1, h2⟩) hl).mono fun v w' h => mv.mk h
  · rw [show decide (n < 0) = false by simpa using h]
    repeat (first
      | (refine st1 fun k' hk => ?_; simp [go_sem, thenR_ok, bin]; refine hk _ _ ?_; clear hk k')
      | (refine br_f ?_) | (refine mv.mk ?_))
    rw [show IntKind.u64.wrap (2 * IntKind.u64.wrap n) = ((zig n : Nat) : Int) by
      simp only [u64_wrap, zig, if_neg h]
      omega]
    exact (isthmusref02_Uint hb (Go.Isk.zig_lt ⟨h1, h2⟩) hl).mono fun v w' h => mv.mk h
theorem isthmusref02_Bytes {w : World} {b x : Value} {l xs : Bytes} (hb : Sl w b l.length 1 (u8s l)) (hx : Sl w x xs.length 1 (u8s xs)) (hl : l.length + xs.length + 10 ≤ 2147483648) :
    C Tryz.prog N.isthmusref02_Bytes #[b, x] w fun r w' => NewO w r w' (l ++ encB xs) := by
  have hx' := hx
  obtain ⟨A, c, rfl, _⟩ := hx'
  refine C.isthmusref02_Bytes ?_
  unfold F.isthmusref02_Bytes
  repeat (first
    | (refine st1 fun k' hk => ?_; simp [go_sem, thenR_ok, bin]; refine hk _ _ ?_; clear hk k')
    | (refine mv.mk ?_))
  rw [u64_wrap, show ((xs.length : Nat) : Int) % 18446744073709551616 = ((xs.length : Nat) : Int) by omega]
  refine (isthmusref02_Uint hb (n := xs.length) (by omega) (by omega)).mono fun r w2 ⟨ho, hu⟩ => mv.mk ?_
  have hp := encU_len10 (n := xs.length) (by omega)
  refine st_app tBytes ho (hx.ext hu) (u8s_one _) (by simp only [List.length_append]; omega) (by simp only [List.length_append]; omega) hu.size fun v' w3 ho3 hu3 _ => mv.mk ⟨?_, hu.trans hu3 fun k hk hs => absurd (own_ge ho hs) (by omega)⟩
  rw [← u8s_append, ← List.length_append, List.append_assoc] at ho3; exact ho3
theorem isthmusref02_Text {w : World} {b : Value} {l xs : Bytes} (hb : Sl w b l.length 1 (u8s l)) (hl : l.length + xs.length + 10 ≤ 2147483648) :
    C Tryz.prog N.isthmusref02_Text #[b, str xs] w fun r w' => NewO w r w' (l ++ encB xs) := by
  refine C.isthmusref02_Text ?_
  unfold F.isthmusref02_Text
  repeat (first
    | (refine st1 fun k' hk => ?_; simp [go_sem, thenR_ok, bin, str, ByteArray.size]; refine hk _ _ ?_; clear hk k')
    | (refine mv.mk ?_))
  rw [u64_wrap, show ((xs.length : Nat) : Int) % 18446744073709551616 = ((xs.length : Nat) : Int) by omega]
  refine (isthmusref02_Uint hb (n := xs.length) (by omega) (by omega)).mono fun r w2 ⟨ho, hu⟩ => mv.mk ?_
  have hp := encU_len10 (n := xs.length) (by omega)
  refine st_appS (by kernel_rfl) (by kernel_rfl) (by kernel_rfl) ho (by simp only [List.length_append]; omega) hu.size fun v' w3 ho3 hu3 => mv.mk ⟨?_, hu.trans hu3 fun k hk hs => absurd (own_ge ho hs) (by omega)⟩
  rw [← u8s_append, ← List.length_append, List.append_assoc] at ho3; exact ho3
theorem isthmusref02_Hash {w : World} {b : Value} {l h : Bytes} (hb : Sl w b l.length 1 (u8s l)) (hh : h.length = 32) (hl : l.length + 32 ≤ 2147483648) :
    C Tryz.prog N.isthmusref02_Hash #[b, .agg (u8s h).toArray] w fun r w' => NewO w r w' (l ++ h) := by
  refine C.isthmusref02_Hash ?_
  unfold F.isthmusref02_Hash
  refine st_box rfl fun g2 w1 hb1 hu1 hg2 => ?_
  have hu1' : Ext w w1.drew := hu1.drew
  have hb1' : Blk w1.drew g2 _ _ := hb1.ext upd_drew
  refine mv.mk (mv.mk ?_)
  refine dr_by (fun w' => Blk w' g2 T.api_Hash (u8s h)) hb1' ?_
  refine mv.mk (mv.mk ?_)
  refine tk_of (.slice (some ⟨g2, 0, none⟩) 32 32) (fun w _ => by simp [go_sem]) ?_
  refine st_app (B := w1.drew.heap.size) tBytes own_nil (hb.ext hu1') (u8s_one _) (by omega) (by omega) (Nat.le_refl _) fun v' w2 ho2 hu2 _ => ?_
  have hu2' : Ext w1.drew w2 := hu2.mono fun k _ hs => by simp [Value.ownBlock] at hs
  refine ⟨hb1'.ext hu2', ?_⟩
  have hx := Sl.of_blk (n := 32) (m := 32) (o := 0) (sz := 1) (hb1'.ext hu2') (by simp [u8s, hh]) (Nat.le_refl _)
  rw [List.drop_zero, u8s_take, List.take_of_length_le (by omega)] at hx
  refine st_app (B := w1.drew.heap.size) tBytes ho2 hx (u8s_one _) (by omega) (by omega) hu2'.size fun v3 w3 ho3 hu3 _ => ?_
  have hu3' : Ext w1.drew w3 := hu2'.trans hu3 fun k hk hs => absurd (own_ge ho2 hs) (by omega)
  refine ⟨hb1'.ext hu3', mv.mk (NewO.after hu1' ⟨?_, hu3'⟩)⟩
  rw [List.nil_append, ← u8s_append, Nat.zero_add] at ho3
  rw [List.length_append, hh]; exact ho3
end Go.Proofs.YtlfelmikcdmkhaaGreatDoor
set_option linter.unusedVariables false
set_option linter.unusedSimpArgs false
set_option linter.unusedSectionVars false
namespace Go.Proofs.YtlfelmikcdmkhaaGreatDoor
open Go Go.Isk Go.RowKit
theorem NewB.then {w0 w w' : World} {r r' : Value} {l l' : Bytes} (h : NewB w0 r w l) (h' : NewB w r' w' l') : NewB w0 r' w' l' := NewB.after h.2.1 h'
theorem NewB.drew {w0 w : World} {r : Value} {l : Bytes} (h : NewB w0 r w l) : NewB w0 r w.drew l := ⟨h.1.ext upd_drew, h.2.1.drew, h.2.2⟩
theorem isthmusref11_Vote {B : Nat} {w : World} {b : Value} {l : Bytes} {cs : List Value} {v : Vote} (hb : Sl w b l.length 1 (u8s l)) (hv : VoteIs B w cs v) (hl : l.length + (encVote v).length + 10 ≤ 2147483648) :
    C Tryz.prog N.isthmusref11_Vote #[b, .agg cs.toArray] w fun r w' => NewB w r w' (l ++ encVote v) := by
  obtain ⟨sv, rfl, hok, hs⟩ := hv
  refine C.isthmusref11_Vote ?_
  unfold F.isthmusref11_Vote
  refine st_box rfl fun g2 w1 hb1 hu0 hg2 => ?_
  have hu1 : Ext w w1.drew := hu0.drew
  have hb1' : Blk w1.drew g2 _ _ := hb1.ext upd_drew
  have hblk := u8s_len hok.block
  have hbl := hok.block
  have hs1 := hs.ext hu1
  simp only [encVote, encI, encB, List.length_append] at hl
  simp only [encVote, encI]
  refine mv.mk ?_
  refine dr_by (fun w' => Blk w' g2 T.api_Vote (voteC (.int .i64 v.kind) (.int .i64 v.height) (.int .i64 v.round) (u8s v.block) (.int .i64 v.validator) sv)) (hb1') ?_
  refine mv.mk ?_
  refine vote.t0 (fun _ h => h) ?_
  refine vote.t1 (fun _ h => h) ?_
  refine vote.t2 (fun _ h => h) ?_
  refine vote.t3 hblk (fun _ h => h) ?_
  refine (isthmusref02_Int (hb.ext hu1) hok.kind (by omega)).mono fun r w2 h2 => ?_
  have h2 := NewO.b h2
  refine ⟨hb1'.ext h2.2.1, ?_⟩
  refine (isthmusref02_Int h2.1 hok.height (by simp only [encI, List.length_append]; omega)).mono fun r w3 h3 => ?_
  have h3 := NewB.then h2 h3.b
  refine ⟨hb1'.ext h3.2.1, ?_⟩
  refine (isthmusref02_Int h3.1 hok.round (by simp only [encI, List.length_append]; omega)).mono fun r w4 h4 => ?_
  have h4 := NewB.then h3 h4.b
  refine ⟨hb1'.ext h4.2.1, ?_⟩
  refine (isthmusref02_Hash h4.1 hok.block (by simp only [encI, List.length_append]; omega)).mono fun r w5 h5 => ?_
  have h5 := NewB.then h4 h5.b
  refine ⟨hb1'.ext h5.2.1, ?_⟩
  refine mv.mk ?_
  have h6 := h5.drew
  refine dr_by (fun w' => Blk w' g2 T.api_Vote (voteC (.int .i64 v.kind) (.int .i64 v.height) (.int .i64 v.round) (u8s v.block) (.int .i64 v.validator) sv)) (hb1'.ext h6.2.1) ?_
  refine mv.mk ?_
  refine vote.t4 hblk (fun _ h => h) ?_
  refine vote.t5 hblk (fun _ h => h) ?_
  refine (isthmusref02_Int h6.1 hok.validator (by simp only [encI, List.length_append]; omega)).mono fun r w7 h7 => ?_
  have h7 := NewB.then h6 h7.b
  refine ⟨hb1'.ext h7.2.1, ?_⟩
  refine (isthmusref02_Bytes h7.1 (hs1.1.ext h7.2.1) (by simp only [encI, List.length_append]; omega)).mono fun r w8 h8 => ?_
  have h8 := NewB.then h7 h8.b
  refine ⟨hb1'.ext h8.2.1, ?_⟩
  refine mv.mk ?_
  have := NewB.after hu1 h8
  simpa only [encI, List.append_assoc] using this
theorem isthmusref11_Commit {B : Nat} {w : World} {b : Value} {l : Bytes} {cs : List Value} {c : Commit} (hb : Sl w b l.length 1 (u8s l)) (hv : CommIs B w cs c) (hl : l.length + (encCommit c).length + 10 ≤ 2147483648) (hn : c.votes.length ≤ 2147483648) :
    C Tryz.prog N.isthmusref11_Commit #[b, .agg cs.toArray] w fun r w' => NewB w r w' (l ++ encCommit c) := by
  obtain ⟨sv, rfl, hok, hs⟩ := hv
  obtain ⟨A, cap, rfl⟩ := hs.len
  refine C.isthmusref11_Commit ?_
  unfold F.isthmusref11_Commit
  refine st_box rfl fun g2 w1 hb1 hu0 hg2 => ?_
  have hu1 : Ext w w1.drew := hu0.drew
  have hb1' : Blk w1.drew g2 _ _ := hb1.ext upd_drew
  have hblk := u8s_len hok.block
  have hbl := hok.block
  have hs1 := VotesIs.keep hs hu1 (fun _ h => h.elim)
  simp only [encCommit, encL, encI, List.length_append] at hl
  simp only [encCommit, encL, encI]
  refine mv.mk ?_
  refine dr_by (fun w' => Blk w' g2 T.api_Commit (commC (.int .i64 c.height) (.int .i64 c.round) (u8s c.block) (.slice A c.votes.length cap))) (hb1') ?_
  refine mv.mk ?_
  refine comm.t0 (fun _ h => h) ?_
  refine comm.t1 (fun _ h => h) ?_
  refine comm.t2 hblk (fun _ h => h) ?_
  refine comm.t3 hblk (fun _ h => h) ?_
  refine tk_of (.int .i64 c.votes.length) (fun w _ => by simp [go_sem]) ?_
  refine tk_of (.int .u64 (c.votes.length : Nat)) (fun w _ => by simp [go_sem, u64_wrap]; omega) ?_
  refine (isthmusref02_Int (hb.ext hu1) hok.height (by omega)).mono fun r w2 h2 => ?_
  have h2 := NewO.b h2
  refine ⟨hb1'.ext h2.2.1, ?_⟩
  refine (isthmusref02_Int h2.1 hok.round (by simp only [encI, List.length_append]; omega)).mono fun r w3 h3 => ?_
  have h3 := NewB.then h2 h3.b
  refine ⟨hb1'.ext h3.2.1, ?_⟩
  refine (isthmusref02_Hash h3.1 hok.block (by simp only [encI, List.length_append]; omega)).mono fun r w4 h4 => ?_
  have h4 := NewB.then h3 h4.b
  refine ⟨hb1'.ext h4.2.1, ?_⟩
  refine (isthmusref02_Uint h4.1 (n := c.votes.length) (by omega) (by simp only [encI, List.length_append]; omega)).mono fun r w5 h5 => ?_
  have h5 := NewB.then h4 h5.b
  refine ⟨hb1'.ext h5.2.1, ?_⟩
  refine mv.mk (mv.mk ?_)
  refine lp_by (fun vs w' => ∃ (r : Value) (i : Nat), vs = [r, .int .i64 i] ∧ i ≤ c.votes.length ∧ NewB w1.drew r w' (l ++ encI c.height ++ encI c.round ++ c.block ++ encU c.votes.length ++ ((c.votes.take i).map encVote).flatten)) (fun vs _ => match vs with | [_, .int _ m] => c.votes.length - m.toNat | _ => 0) ⟨_, 0, rfl, Nat.zero_le _, by simpa using h5⟩ ?_
  rintro x w6 ⟨r, i, hx, hi, h6⟩
  simp only [List.cons.injEq, and_true] at hx
  rw [hx.1, hx.2]
  refine mv.mk ?_
  refine comm.g3 hblk (hb1'.ext h6.2.1) ?_
  repeat (first
    | (refine st1 fun k' hk => ?_; simp [go_sem, thenR_ok, bin]; refine hk _ _ ?_; clear hk k')
    | (refine mv.mk ?_))
  refine br_split (fun hb => ?_) (fun hb => ?_)
  · have hi' : i < c.votes.length := by simpa using hb
    have hs6 := VotesIs.keep hs1 h6.2.1 fun _ h => h.elim
    have hfl := encL_take encVote hi'
    refine mv.mk ?_
    refine comm.g3 hblk (hb1'.ext h6.2.1) (mv.mk ?_)
    refine st_idx hs6 tVotes i rfl hi' fun g3 o3 y hr hyl hyv hg3 => ?_
    refine st_of (load_agg (by kernel_rfl) hr hyl) ?_
    refine (isthmusref11_Vote h6.1 hyv (by simp only [encI, List.length_append]; omega)).mono fun r w8 h8 => ?_
    have h8 := NewB.then h6 h8
    repeat (first
      | (refine st1 fun k' hk => ?_; simp [go_sem, thenR_ok, bin]; refine hk _ _ ?_; clear hk k')
      | (refine mv.mk ?_))
    refine ⟨⟨_, i + 1, by rw [i64_wrap (by omega) (by omega)]; rfl, hi', ?_⟩, ?_⟩
    · rw [flat_take_succ encVote hi', ← List.append_assoc]; exact h8
    · rw [i64_wrap (by omega) (by omega)]; simp; omega
  · have hi' : i = c.votes.length := by have : ¬ i < c.votes.length := by simpa using hb
                                        omega
    subst hi'
    refine mv.mk (mv.mk ?_)
    rw [List.take_length] at h6
    have := NewB.after hu1 h6
    simpa only [encI, List.append_assoc] using this
theorem isthmusref11_Header {w : World} {b : Value} {l : Bytes} {cs : List Value} {h : Header} (hb : Sl w b l.length 1 (u8s l)) (hv : HeadIs cs h) (hl : l.length + (encHeader h).length + 10 ≤ 2147483648) :
    C Tryz.prog N.isthmusref11_Header #[b, .agg cs.toArray] w fun r w' => NewB w r w' (l ++ encHeader h) := by
  obtain ⟨rfl, hok⟩ := hv
  refine C.isthmusref11_Header ?_
  unfold F.isthmusref11_Header
  refine st_box rfl fun g2 w1 hb1 hu0 hg2 => ?_
  have hu1 : Ext w w1.drew := hu0.drew
  have hb1' : Blk w1.drew g2 _ _ := hb1.ext upd_drew
  have k_last := u8s_len hok.last
  have l_last := hok.last
  have k_app := u8s_len hok.app
  have l_app := hok.app
  have k_txs := u8s_len hok.txs
  have l_txs := hok.txs
  have k_validators := u8s_len hok.validators
  have l_validators := hok.validators
  have k_next := u8s_len hok.next
  have l_next := hok.next
  simp only [encHeader, encI, encB, List.length_append] at hl
  simp only [encHeader]
  refine mv.mk ?_
  refine dr_by (fun w' => Blk w' g2 T.api_Header (headC (str h.chain) (.int .i64 h.height) (.int .i64 h.time) (u8s h.last) (u8s h.app) (u8s h.txs) (u8s h.validators) (u8s h.next) (.int .i64 h.proposer))) (hb1') ?_
  refine mv.mk ?_
  refine head.t0 (fun _ h => h) ?_
  refine head.t1 (fun _ h => h) ?_
  refine head.t2 (fun _ h => h) ?_
  refine (isthmusref02_Text (hb.ext hu1) (by omega)).mono fun r w2 h2 => ?_
  have h2 := NewO.b h2
  refine ⟨hb1'.ext h2.2.1, ?_⟩
  refine (isthmusref02_Int h2.1 hok.height (by simp only [encI, encB, List.length_append]; omega)).mono fun r w3 h3 => ?_
  have h3 := NewB.then h2 h3.b
  refine ⟨hb1'.ext h3.2.1, ?_⟩
  refine (isthmusref02_Int h3.1 hok.time (by simp only [encI, encB, List.length_append]; omega)).mono fun r w4 h4 => ?_
  have h4 := NewB.then h3 h4.b
  refine ⟨hb1'.ext h4.2.1, ?_⟩
  refine mv.mk ?_
  have h5 := h4.drew
  refine dr_by (fun w' => Blk w' g2 T.api_Header (headC (str h.chain) (.int .i64 h.height) (.int .i64 h.time) (u8s h.last) (u8s h.app) (u8s h.txs) (u8s h.validators) (u8s h.next) (.int .i64 h.proposer))) (hb1'.ext h5.2.1) ?_
  refine mv.mk ?_
  refine head.t3 (by assumption) (fun _ h => h) ?_
  refine head.t4 (by assumption) (by assumption) (fun _ h => h) ?_
  refine head.t5 (by assumption) (by assumption) (by assumption) (fun _ h => h) ?_
  refine head.t6 (by assumption) (by assumption) (by assumption) (by assumption) (fun _ h => h) ?_
  refine head.t7 (by assumption) (by assumption) (by assumption) (by assumption) (by assumption) (fun _ h => h) ?_
  refine (isthmusref02_Hash h5.1 hok.last (by simp only [encI, encB, List.length_append]; omega)).mono fun r w6 h6 => ?_
  have h6 := NewB.then h5 h6.b
  refine ⟨hb1'.ext h6.2.1, ?_⟩
  refine (isthmusref02_Hash h6.1 hok.app (by simp only [encI, encB, List.length_append]; omega)).mono fun r w7 h7 => ?_
  have h7 := NewB.then h6 h7.b
  refine ⟨hb1'.ext h7.2.1, ?_⟩
  refine (isthmusref02_Hash h7.1 hok.txs (by simp only [encI, encB, List.length_append]; omega)).mono fun r w8 h8 => ?_
  have h8 := NewB.then h7 h8.b
  refine ⟨hb1'.ext h8.2.1, ?_⟩
  refine (isthmusref02_Hash h8.1 hok.validators (by simp only [encI, encB, List.length_append]; omega)).mono fun r w9 h9 => ?_
  have h9 := NewB.then h8 h9.b
  refine ⟨hb1'.ext h9.2.1, ?_⟩
  refine (isthmusref02_Hash h9.1 hok.next (by simp only [encI, encB, List.length_append]; omega)).mono fun r w10 h10 => ?_
  have h10 := NewB.then h9 h10.b
  refine ⟨hb1'.ext h10.2.1, ?_⟩
  refine mv.mk (mv.mk ?_)
  refine head.g8 (by assumption) (by assumption) (by assumption) (by assumption) (by assumption) (hb1'.ext h10.2.1) ?_
  refine (isthmusref02_Int h10.1 hok.proposer (by simp only [encI, encB, List.length_append]; omega)).mono fun r w11 h11 => ?_
  have h11 := NewB.then h10 h11.b
  refine mv.mk ?_
  have := NewB.after hu1 h11
  simpa only [encI, List.append_assoc] using this
theorem isthmusref11_Block {B : Nat} {w : World} {b : Value} {l : Bytes} {cs : List Value} {x : Block} (hb : Sl w b l.length 1 (u8s l)) (hv : BlokIs B w cs x) (hl : l.length + (encBlock x).length + 10 ≤ 2147483648) (hn : x.txs.length ≤ 2147483648) (hn2 : x.last.votes.length ≤ 2147483648) :
    C Tryz.prog N.isthmusref11_Block #[b, .agg cs.toArray] w fun r w' => NewB w r w' (l ++ encBlock x) := by
  obtain ⟨hc, sv, cc, rfl, hh, hs, hcc⟩ := hv
  obtain ⟨A, cap, rfl⟩ := hs.len
  refine C.isthmusref11_Block ?_
  unfold F.isthmusref11_Block
  refine st_box rfl fun g2 w1 hb1 hu0 hg2 => ?_
  have hu1 : Ext w w1.drew := hu0.drew
  have hb1' : Blk w1.drew g2 _ _ := hb1.ext upd_drew
  have k0 := hh.len
  have k2 := hcc.len
  have hs1 := TxsIs.keep hs hu1 (fun _ h => h.elim)
  have hcc1 := hcc.keep hu1 (fun _ h => h.elim)
  simp only [encBlock, encL, List.length_append] at hl
  simp only [encBlock, encL]
  have hp := encU_len10 (n := x.txs.length) (by omega)
  have hp1 := encU_pos x.txs.length
  refine mv.mk ?_
  refine dr_by (fun w' => Blk w' g2 T.api_Block (blokC hc (.slice A x.txs.length cap) cc)) (hb1') ?_
  refine mv.mk ?_
  refine blok.t0 k0 (fun _ h => h) ?_
  refine blok.t1 k0 (fun _ h => h) ?_
  refine tk_of (.int .i64 x.txs.length) (fun w _ => by simp [go_sem]) ?_
  refine tk_of (.int .u64 (x.txs.length : Nat)) (fun w _ => by simp [go_sem, u64_wrap]; omega) ?_
  refine (isthmusref11_Header (hb.ext hu1) hh (by omega)).mono fun r w2 h2 => ?_
  refine ⟨hb1'.ext h2.2.1, ?_⟩
  refine (isthmusref02_Uint h2.1 (n := x.txs.length) (by omega) (by simp only [List.length_append]; omega)).mono fun r w3 h3 => ?_
  have h3 := NewB.then h2 h3.b
  refine ⟨hb1'.ext h3.2.1, ?_⟩
  refine mv.mk (mv.mk ?_)
  refine lp_by (fun vs w' => ∃ (r : Value) (i : Nat), vs = [r, .int .i64 i] ∧ i ≤ x.txs.length ∧ NewB w1.drew r w' (l ++ encHeader x.header ++ encU x.txs.length ++ ((x.txs.take i).map encB).flatten)) (fun vs _ => match vs with | [_, .int _ m] => x.txs.length - m.toNat | _ => 0) ⟨_, 0, rfl, Nat.zero_le _, by simpa using h3⟩ ?_
  rintro y w6 ⟨r, i, hx, hi, h6⟩
  simp only [List.cons.injEq, and_true] at hx
  rw [hx.1, hx.2]
  refine mv.mk ?_
  refine blok.g1 k0 (hb1'.ext h6.2.1) ?_
  repeat (first
    | (refine st1 fun k' hk => ?_; simp [go_sem, thenR_ok, bin]; refine hk _ _ ?_; clear hk k')
    | (refine mv.mk ?_))
  refine br_split (fun hb => ?_) (fun hb => ?_)
  · have hi' : i < x.txs.length := by simpa using hb
    have hs6 := TxsIs.keep hs1 h6.2.1 fun _ h => h.elim
    have hfl := encL_take encB hi'
    have hbl : (encB x.txs[i]).length = (encU (x.txs[i]).length).length + (x.txs[i]).length := by simp only [encB, List.length_append]
    refine mv.mk ?_
    refine blok.g1 k0 (hb1'.ext h6.2.1) (mv.mk ?_)
    refine st_idx hs6 tTxs i rfl hi' fun g3 o3 y hr hyl hyv hg3 => ?_
    obtain ⟨y, rfl, hy⟩ := hyv
    refine load_range1 (by kernel_rfl) hr ?_
    refine (isthmusref02_Bytes h6.1 hy.1 (by simp only [List.length_append]; omega)).mono fun r w8 h8 => ?_
    have h8 := NewB.then h6 h8.b
    repeat (first
      | (refine st1 fun k' hk => ?_; simp [go_sem, thenR_ok, bin]; refine hk _ _ ?_; clear hk k')
      | (refine mv.mk ?_))
    refine ⟨⟨_, i + 1, by rw [i64_wrap (by omega) (by omega)]; rfl, hi', ?_⟩, ?_⟩
    · rw [flat_take_succ encB hi', ← List.append_assoc]; exact h8
    · rw [i64_wrap (by omega) (by omega)]; simp; omega
  · have hi' : i = x.txs.length := by have : ¬ i < x.txs.length := by simpa using hb
                                      omega
    subst hi'
    rw [List.take_length] at h6
    refine mv.mk ?_
    refine blok.g2 k0 k2 (hb1'.ext h6.2.1) ?_
    refine (isthmusref11_Commit h6.1 (hcc1.keep h6.2.1 fun _ h => h.elim) (by simp only [List.length_append]; omega) hn2).mono fun r w8 h8 => mv.mk ?_
    have := NewB.after hu1 (NewB.then h6 h8)
    simpa only [List.append_assoc] using this
end Go.Proofs.YtlfelmikcdmkhaaGreatDoor
